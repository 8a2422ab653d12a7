import Derived.Test.YteopponjfkeagaaLat4
import Derived.Maps.OwnOps
import Derived.Maps.OwnSet
import Derived.Maps.Views
import Derived.DeepKeys5
namespace Go.Proofs.Yteopponjfkeagaa.Lat
open Go.RowKit Go.Maps Go.Proofs.YteopponjfkeagaaW.PrintWords Go.Proofs.YteopponjfkeagaaW.PrintLast Go.Proofs.YteopponjfkeagaaW.PrintMore
set_option linter.unusedVariables false
set_option linter.unusedSimpArgs false

theorem pair_law : Keyed Try.prog 82 := Keyed.of_law (deep_law_gate (by kernel_rfl) (by decide +kernel) (by decide +kernel) (by kernel_rfl) (by kernel_rfl))
abbrev pairV (a b : Int) : Value := .agg #[.int .i64 a, .int .i64 b]
theorem pair_key (a b : Int) (ha : (Lit.int .i64 a).wf = true) (hb : (Lit.int .i64 b).wf = true) : keyOf Try.prog 82 (pairV a b) = some (.string (keyBytes [.int .i64 a, .int .i64 b])) := by
  have h1 : Try.prog.keyType 82 = true := by kernel_rfl
  have h2 : Value.formed Try.prog 82 (pairV a b) = true := by first | kernel_rfl | rfl | simp [Value.formed]
  have c82 : Try.prog.cellsOf 82 = 2 := by kernel_rfl
  have c3 : Try.prog.cellsOf 3 = 1 := by kernel_rfl
  have h3 : Try.prog.keyLits (Try.prog.types.size + 1) 82 [.int .i64 a, .int .i64 b] = some [.int .i64 a, .int .i64 b] := by
    have hp : 0 < Try.prog.types.size := by decide +kernel
    obtain ⟨m, hm⟩ : ∃ m, Try.prog.types.size + 1 = m + 2 := ⟨Try.prog.types.size - 1, by omega⟩
    rw [hm]
    simp [Program.keyLits, Try.underlying82, Try.underlying3, ha, hb, c82, c3]
  unfold keyOf
  rw [Try.underlying82]
  simp only [h1, h2, Bool.and_self, if_true]
  have h4 : (pairV a b).cells.toList = [.int .i64 a, .int .i64 b] := rfl
  rw [h4, h3]
  rfl
def kl (a b : Int) : Lit := .string (keyBytes [.int .i64 a, .int .i64 b])
def okI (a : Int) : Prop := (Lit.int .i64 a).wf = true
theorem okI_small {a : Int} (h0 : -100 ≤ a) (h1 : a ≤ 100) : okI a := WalkArith.wf_i64 (by omega)
theorem pair_at {a b : Int} (ha : okI a) (hb : okI b) : keyOf Try.prog 82 (pairV a b) = some (kl a b) := pair_key a b ha hb
theorem kl_inj {a b c d : Int} (ha : okI a) (hb : okI b) (hc : okI c) (hd : okI d) (h : kl a b = kl c d) : a = c ∧ b = d := by
  have h1 := pair_at ha hb
  rw [h] at h1
  have := pair_law.inj h1 (pair_at hc hd)
  simp only [pairV, Value.agg.injEq, Array.mk.injEq, List.cons.injEq, Value.int.injEq, true_and, and_true] at this
  exact this
/-- block b is a map of at most m entries; a look-up tells J -/
def Tab (w : World) (b m : Nat) (J : Int → Int → Int) : Prop :=
  ∃ D : DataW Unit, w.ownsMap Try.prog 82 (plainElem Try.prog 3) b m D ∧ IsMap D ∧ ∀ a c, okI a → okI c → D.atKey (kl a c) (.lit (.int .i64 0)) = .lit (.int .i64 (J a c))
theorem zero_int (w : World) : (zeroValue 3).run Try.prog w = .ok (.int .i64 0) w := by kernel_rfl
theorem Tab.look {w : World} {b m : Nat} {J : Int → Int → Int} (h : Tab w b m J) {a c : Int} (ha : okI a) (hc : okI c) : (Instr.lookup 75 (.map (some b)) (pairV a c) false).run Try.prog w = .ok (.int .i64 (J a c)) w := by
  obtain ⟨D, ho, hi, hJ⟩ := h
  obtain ⟨x, hrun, hat, _⟩ := ho.lookup_int pair_law Try.underlying75 Try.underlying3 (zero_int w) (pair_at ha hc)
  rw [hJ a c ha hc] at hat
  injection hat with hat
  injection hat with _ hat
  rw [hrun, hat]
theorem Tab.later {w w' : World} {b m : Nat} {J : Int → Int → Int} (h : Tab w b m J) (hb : Below w.heap.size w w') : Tab w' b m J := by
  obtain ⟨D, ho, hi, hJ⟩ := h
  obtain ⟨es, clock, hk, F, hs, hD⟩ := ho
  exact ⟨D, ⟨es, clock, blk_below hk hb, F, hs, hD⟩, hi, hJ⟩
theorem Tab.at_block {w w' : World} {b m : Nat} {J : Int → Int → Int} (h : Tab w b m J) (hb : w'.heap[b]? = w.heap[b]?) : Tab w' b m J := by
  obtain ⟨D, ho, hi, hJ⟩ := h
  obtain ⟨es, clock, hk, F, hs, hD⟩ := ho
  exact ⟨D, ⟨es, clock, hb.trans hk, F, hs, hD⟩, hi, hJ⟩
theorem Tab.made (w : World) : Tab (w.alloc (.map #[] 0)) w.heap.size 0 (fun _ _ => 0) :=
  ⟨_, World.ownsMap_made w _ _ _, ⟨_, rfl⟩, fun a c _ _ => rfl⟩
theorem Tab.put {w : World} {b m : Nat} {J : Int → Int → Int} (h : Tab w b m J) (hm : m < 1000) {a c x : Int} (ha : okI a) (hc : okI c) (hx : okI x) :
    ∃ w', (Instr.mapUpdate 75 (.map (some b)) (pairV a c) (.int .i64 x)).run Try.prog w = .ok () w' ∧ Tab w' b (m + 1) (fun i j => if i = a ∧ j = c then x else J i j) ∧ w.grownBy w' (some b) := by
  obtain ⟨D, ho, hi, hJ⟩ := h
  obtain ⟨w', hrun, ho', hg⟩ := ho.update pair_law Try.underlying75 (by unfold maxLen; omega) (pair_at ha hc) (plainElem_int Try.underlying3 hx)
  refine ⟨w', hrun, ⟨_, ho', ?_, fun i j h1 h2 => ?_⟩, hg⟩
  · exact ho'.isMap
  · by_cases hij : i = a ∧ j = c
    · obtain ⟨rfl, rfl⟩ := hij
      rw [atKey_put_same hi (pair_law.key (pair_at ha hc))]
      simp
    · rw [atKey_put_other (fun e => hij (kl_inj h1 h2 ha hc e)), hJ i j h1 h2]
      simp only [if_neg hij]
end Go.Proofs.Yteopponjfkeagaa.Lat
