import Derived.Test.YtohhlkabejangaaUOf0
import Derived.DeepKeys5
import Derived.Shelf.SlIter.Collect
-- halved
namespace Go.Proofs.Ytohhlkabejangaa.Of
set_option linter.unusedVariables false
set_option linter.unusedSimpArgs false
open Go.RowKit Go.Maps Go.Sort Go.Lib Go.Shelf Go.Proofs.YtohhlkabejangaaW.PrintWords Go.Proofs.YtohhlkabejangaaW.PrintLast Go.Proofs.YtohhlkabejangaaW.PrintMore Go.Proofs.Ytohhlkabejangaa.POf
theorem laidOut : laidOutB Try.prog = true := by kernel_rfl
theorem keyed : Keyed Try.prog 74 :=
 Keyed.of_law (deep_law_gate laidOut (of_decide_eq_true (by kernel_rfl)) (of_decide_eq_true (by kernel_rfl)) (by kernel_rfl) (by kernel_rfl))
structure okK (x : Ky) : Prop where
 a : x.g.size ≤ maxLen
 b : x.t.size ≤ maxLen
 c : -9223372036854775808 ≤ x.p ∧ x.p ≤ 9223372036854775807
def valK (x : Ky) : Value := .agg #[.string x.g, .string x.t, .int .i64 x.p]
def litK (x : Ky) : Lit := .string (keyBytes [.string x.g.data.toList, .string x.t.data.toList, .int .i64 x.p])
theorem valK_inj {x y : Ky} (h : valK x = valK y) : x = y := by
 obtain ⟨a, b, c⟩ := x
 obtain ⟨a', b', c'⟩ := y
 simpa [valK] using h
theorem fuel : ∃ d, Try.prog.types.size + 1 = d + 3 := ⟨Try.prog.types.size - 2, by have : 3 ≤ Try.prog.types.size := of_decide_eq_true (by kernel_rfl); omega⟩
theorem cellsK : Try.prog.cellsOf 74 = 3 := by kernel_rfl
theorem cellsP : Try.prog.cellsOf 72 = 2 := by kernel_rfl
theorem cellsS : Try.prog.cellsOf 9 = 1 := by kernel_rfl
theorem cellsI : Try.prog.cellsOf 3 = 1 := by kernel_rfl
theorem keyTypeK : Try.prog.keyType 74 = true := by kernel_rfl
theorem wf_i64 {n : Int} : (Lit.int .i64 n).wf = true ↔ (-9223372036854775808 ≤ n ∧ n ≤ 9223372036854775807) := by
 simp [Lit.wf, IntKind.min, IntKind.max, IntKind.signed, IntKind.bits]
set_option maxRecDepth 100000 in
theorem lits_str (d : Nat) (v : Value) (ls : List Lit) : Try.prog.keyLits (d + 1) 9 [v] = some ls ↔ ∃ s, v = .string s ∧ s.size ≤ maxLen ∧ ls = [.string s.data.toList] := by
 unfold Program.keyLits
 rw [Try.underlying9]
 constructor
 ·intro h
  cases v <;> dsimp only at h <;> first | (cases h; done) | skip
  rename_i s
  split at h
  ·rename_i hs
   exact ⟨s, rfl, hs, (Option.some.inj h).symm⟩
  ·cases h
 ·rintro ⟨s, rfl, hs, rfl⟩
  exact if_pos hs
set_option maxRecDepth 100000 in
theorem lits_int (d : Nat) (v : Value) (ls : List Lit) : Try.prog.keyLits (d + 1) 3 [v] = some ls ↔ ∃ n, v = .int .i64 n ∧ (Lit.int .i64 n).wf = true ∧ ls = [.int .i64 n] := by
 unfold Program.keyLits
 rw [Try.underlying3]
 constructor
 ·intro h
  cases v <;> dsimp only at h <;> first | (cases h; done) | skip
  rename_i k n
  split at h
  ·rename_i hs
   obtain ⟨rfl, hw⟩ := hs
   exact ⟨n, rfl, hw, (Option.some.inj h).symm⟩
  ·cases h
 ·rintro ⟨n, rfl, hs, rfl⟩
  exact if_pos ⟨rfl, hs⟩
set_option maxRecDepth 100000 in
theorem lits_place (d : Nat) (c1 c2 : Value) : Try.prog.keyLits (d + 2) 72 [c1, c2] = (Try.prog.keyLits (d + 1) 9 [c1]).bind fun a => (Try.prog.keyLits (d + 1) 3 [c2]).bind fun b => some (a ++ b) := by
 conv => lhs; rw [Program.keyLits.eq_def]
 dsimp only
 rw [Try.underlying72]
 dsimp only
 rw [if_pos ⟨by rw [cellsP]; rfl, by kernel_rfl⟩]
 simp only [List.mapM_cons, List.mapM_nil, List.drop_zero, cellsS, cellsI]
 show Option.map List.flatten ((Try.prog.keyLits (d + 1) 9 [c1]).bind fun a => ((Try.prog.keyLits (d + 1) 3 [c2]).bind fun b => some [b]).bind fun l => some (a :: l)) = _
 cases Try.prog.keyLits (d + 1) 9 [c1] <;> cases Try.prog.keyLits (d + 1) 3 [c2] <;> simp
set_option maxRecDepth 100000 in
theorem lits_key (d : Nat) (c0 c1 c2 : Value) : Try.prog.keyLits (d + 3) 74 [c0, c1, c2] = (Try.prog.keyLits (d + 2) 9 [c0]).bind fun a => (Try.prog.keyLits (d + 2) 72 [c1, c2]).bind fun b => some (a ++ b) := by
 conv => lhs; rw [Program.keyLits.eq_def]
 dsimp only
 rw [Try.underlying74]
 dsimp only
 rw [if_pos ⟨by rw [cellsK]; rfl, by kernel_rfl⟩]
 simp only [List.mapM_cons, List.mapM_nil, List.drop_zero, cellsS, cellsP]
 show Option.map List.flatten ((Try.prog.keyLits (d + 2) 9 [c0]).bind fun a => ((Try.prog.keyLits (d + 2) 72 [c1, c2]).bind fun b => some [b]).bind fun l => some (a :: l)) = _
 cases Try.prog.keyLits (d + 2) 9 [c0] <;> cases Try.prog.keyLits (d + 2) 72 [c1, c2] <;> simp
set_option maxRecDepth 100000 in
theorem keyOf_agg (d : Nat) (hd : Try.prog.types.size + 1 = d + 3) (cs : Array Value) : keyOf Try.prog 74 (.agg cs) = if cs.size = 3 then (Try.prog.keyLits (d + 3) 74 cs.toList).map fun ls => .string (keyBytes ls) else none := by
 unfold keyOf
 rw [Try.underlying74, hd, keyTypeK]
 simp [Value.formed, Try.underlying74, cellsK, Value.cells]
set_option maxRecDepth 100000 in
theorem keyOf_mk {x : Ky} (h : okK x) : keyOf Try.prog 74 (valK x) = some (litK x) := by
 obtain ⟨d, hd⟩ := fuel
 unfold valK
 rw [keyOf_agg d hd, if_pos (show (#[.string x.g, .string x.t, .int .i64 x.p] : Array Value).size = 3 from rfl)]
 show Option.map _ (Try.prog.keyLits (d + 3) 74 [.string x.g, .string x.t, .int .i64 x.p]) = _
 rw [lits_key, lits_place, (lits_str _ _ _).2 ⟨x.g, rfl, h.a, rfl⟩, (lits_str _ _ _).2 ⟨x.t, rfl, h.b, rfl⟩, (lits_int _ _ _).2 ⟨x.p, rfl, wf_i64.2 h.c, rfl⟩]
 rfl
set_option maxRecDepth 100000 in
theorem keyOf_inv {v : Value} {l : Lit} (h : keyOf Try.prog 74 v = some l) : ∃ x, v = valK x ∧ l = litK x ∧ okK x := by
 obtain ⟨d, hd⟩ := fuel
 obtain ⟨cs, rfl⟩ : ∃ cs, v = .agg cs := by
  unfold keyOf at h
  rw [Try.underlying74] at h
  cases v <;> first | exact ⟨_, rfl⟩ | simp [Value.formed, Try.underlying74] at h
 rw [keyOf_agg d hd] at h
 split at h
 ·rename_i hs
  obtain ⟨cs⟩ := cs
  match cs, hs with
  | [c0, c1, c2], _ =>
   rw [lits_key, lits_place] at h
   simp only [Option.map_eq_some_iff, Option.bind_eq_some_iff, Option.some.injEq] at h
   obtain ⟨ls, ⟨a, ha, b, ⟨a2, ha2, b2, hb2, rfl⟩, rfl⟩, rfl⟩ := h
   obtain ⟨s0, rfl, h0, rfl⟩ := (lits_str _ _ _).1 ha
   obtain ⟨s1, rfl, h1, rfl⟩ := (lits_str _ _ _).1 ha2
   obtain ⟨n, rfl, h2, rfl⟩ := (lits_int _ _ _).1 hb2
   exact ⟨⟨s0, s1, n⟩, rfl, rfl, ⟨h0, h1, wf_i64.1 h2⟩⟩
 ·cases h
theorem litK_inj {x y : Ky} (hx : okK x) (hy : okK y) (h : litK x = litK y) : x = y :=
 valK_inj (keyed.inj (keyOf_mk hx) (h ▸ keyOf_mk hy))
end Go.Proofs.Ytohhlkabejangaa.Of
