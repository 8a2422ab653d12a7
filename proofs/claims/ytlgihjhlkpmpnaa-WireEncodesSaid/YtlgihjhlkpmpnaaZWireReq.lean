import Derived.Test.YtlgihjhlkpmpnaaZWireD
import Derived.Deep.Slices
import Derived.Deep.Fields
import Derived.SizedLaws
import Derived.ChangeSame
namespace Go.Proofs.Ytlgihjhlkpmpnaa.Wire
set_option linter.unusedVariables false
set_option linter.unusedSimpArgs false
open Go.RowKit Go.Deep Go.ChangeShapes Go.WideShapes Go.Proofs.YtlgihjhlkpmpnaaW.PrintWords Go.Proofs.YtlgihjhlkpmpnaaW.PrintLast Go.Proofs.YtlgihjhlkpmpnaaW.PrintMore Go.Proofs.Ytlgihjhlkpmpnaa.PWire
instance : Inhabited S102 := ⟨⟨⟨#[]⟩, ⟨#[]⟩, false⟩⟩
theorem list20 {α : Type} {l : List α} (h : l.length = 20) : ∃ c0 c1 c2 c3 c4 c5 c6 c7 c8 c9 c10 c11 c12 c13 c14 c15 c16 c17 c18 c19, l = [c0, c1, c2, c3, c4, c5, c6, c7, c8, c9, c10, c11, c12, c13, c14, c15, c16, c17, c18, c19] := by
  match l, h with
  | [c0, c1, c2, c3, c4, c5, c6, c7, c8, c9, c10, c11, c12, c13, c14, c15, c16, c17, c18, c19], _ => exact ⟨c0, c1, c2, c3, c4, c5, c6, c7, c8, c9, c10, c11, c12, c13, c14, c15, c16, c17, c18, c19, rfl⟩
theorem list14 {α : Type} {l : List α} (h : l.length = 14) : ∃ c0 c1 c2 c3 c4 c5 c6 c7 c8 c9 c10 c11 c12 c13, l = [c0, c1, c2, c3, c4, c5, c6, c7, c8, c9, c10, c11, c12, c13] := by
  match l, h with
  | [c0, c1, c2, c3, c4, c5, c6, c7, c8, c9, c10, c11, c12, c13], _ => exact ⟨c0, c1, c2, c3, c4, c5, c6, c7, c8, c9, c10, c11, c12, c13, rfl⟩
theorem list5' {α : Type} {l : List α} (h : l.length = 5) : ∃ a b c d e, l = [a, b, c, d, e] := by
  match l, h with
  | [a, b, c, d, e], _ => exact ⟨a, b, c, d, e, rfl⟩
theorem list2' {α : Type} {l : List α} (h : l.length = 2) : ∃ a b, l = [a, b] := by
  match l, h with
  | [a, b], _ => exact ⟨a, b, rfl⟩
theorem list3' {α : Type} {l : List α} (h : l.length = 3) : ∃ a b c, l = [a, b, c] := by
  match l, h with
  | [a, b, c], _ => exact ⟨a, b, c, rfl⟩
section
variable {H : Type} {enc : TypeId × Value → H} {W : World} {base : Nat} {sp : Nat → Bool} {held : Bool}
theorem cI : Try.prog.cellsOf 3 = 1 := by kernel_rfl
theorem cS : Try.prog.cellsOf 9 = 1 := by kernel_rfl
theorem cB : Try.prog.cellsOf 4 = 1 := by kernel_rfl
theorem cPl : Try.prog.cellsOf 40 = 2 := by kernel_rfl
theorem cSp : Try.prog.cellsOf 42 = 5 := by kernel_rfl
theorem cPr : Try.prog.cellsOf 102 = 3 := by kernel_rfl
theorem cPs : Try.prog.cellsOf 43 = 1 := by kernel_rfl
theorem cRq : Try.prog.cellsOf 45 = 20 := by kernel_rfl
theorem bPr : Try.prog.bytesOf 102 = 40 := by kernel_rfl
/-- pairs that come in, opened -/
theorem prs_open {fuel : Nat} {v : Value} {x : DataW H × List MemPlace} (h : DataW.trod enc Try.prog W base sp held fuel 43 [v] = some x) (hz : (x.1.weights Try.prog 43).all (· ≤ reachBytes) = true) :
    ∃ (A : Option Addr) (k : Nat) (l : List S102), v = .slice A l.length k ∧ l.length ≤ k ∧ Prs W A l.length k l := by
  rcases open_slice Try.underlying43 h with ⟨hcs, _⟩ | ⟨a', len, cap, m, n, D, Pl, hcs, _, hl, hm, hmm, hx0, hx⟩
  · obtain rfl := (List.cons.inj hcs).1
    exact ⟨none, 0, [], rfl, Nat.le_refl _, ⟨Kd.C_nil _ _, fun _ => rfl, by decide⟩⟩
  · obtain rfl := (List.cons.inj hcs).1
    have hml : len ≤ m := by
      rw [hmm]
      split
      · exact hl
      · exact Nat.le_refl _
    rw [hx0] at hz
    simp only [DataW.weights, Try.underlying43, bPr, List.all_cons, Bool.and_eq_true, decide_eq_true_eq, List.length_map, List.length_range] at hz
    have hb := hz.1
    have hrb : reachBytes = 140737488351232 := rfl
    have each : ∀ i, i < len → ∃ r : S102, ∀ j u, [Value.string r.f0, .string r.f1, .bool r.f2][j]? = some u → W.cell? (a'.add (i * 3 + j)) = some u := by
      intro i hi
      obtain ⟨cs', h1, h2⟩ := hx i (by omega)
      rw [cPr] at h1
      obtain ⟨_, hlen, hcell⟩ := World.cells?_some h1
      obtain ⟨xs, k, hk, hxy, _, hxl, hf⟩ := DataW.trod_struct Try.underlying102 h2
      obtain ⟨v0, v1, v2, rfl⟩ := list3' hlen
      obtain ⟨y0, y1, y2, rfl⟩ := list3' hxl
      have g0 := hf 0 _ rfl
      have g1 := hf 1 _ rfl
      have g2 := hf 2 _ rfl
      simp [cS, cB] at g0 g1 g2
      obtain ⟨x0, e0, _⟩ := DataW.trod_string Try.underlying9 g0
      obtain ⟨x1, e1, _⟩ := DataW.trod_string Try.underlying9 g1
      obtain ⟨x2, e2, _⟩ := DataW.trod_bool Try.underlying4 g2
      simp only [List.cons.injEq, and_true] at e0 e1 e2
      subst e0 e1 e2
      refine ⟨⟨x0, x1, x2⟩, fun j u hu => ?_⟩
      have hj : j < 3 := by
        have := (List.getElem?_eq_some_iff.1 hu).1
        simpa using this
      have := hcell j hj
      rw [Go.Deep.add_add] at this
      rw [this]
      exact hu
    obtain ⟨r, hr⟩ := choose_lt each
    have hlr : ((List.range len).map r).length = len := by simp
    refine ⟨some a', cap, (List.range len).map r, by rw [hlr], by rw [hlr]; exact hl, ⟨?_, fun h => (by cases h), (by rw [hlr]; omega)⟩⟩
    rw [hlr]
    refine ⟨hlr, by omega, fun hn => ⟨a', rfl, fun j p hj => ?_⟩⟩
    have hjl : j < len := by
      have := (List.getElem?_eq_some_iff.1 hj).1
      simpa using this
    obtain rfl : p = r j := by
      rw [List.getElem?_map, List.getElem?_range hjl] at hj
      exact (Option.some.inj hj).symm
    exact ⟨_, rfl, k102_mk _ _, fun i u hu => hr j hjl i u hu⟩
set_option maxHeartbeats 4000000 in
/-- a request that comes in, opened -/
theorem req_open {fuel : Nat} {cs : List Value} {x : DataW H × List MemPlace} (h : DataW.trod enc Try.prog W base sp held fuel 45 cs = some x) (hz : (x.1.weights Try.prog 45).all (· ≤ reachBytes) = true) :
    ∃ (y : Rq) (A : Option Addr) (k : Nat) (l : List S102), cs = (#[.int .i64 y.id, .int .i64 y.kind, .int .i64 y.label, .string y.pt, .int .i64 y.pp, .string y.tt, .int .i64 y.tp, .string y.sn, .int .i64 y.sp, .int .i64 y.sa, .int .i64 y.ss, .bool y.sc, .string y.grp, .string y.mem, .int .i64 y.gen, .int .i64 y.off, .int .i64 y.most, .int .i64 y.prod, .int .i64 y.seq, .slice A l.length k] : Array Value).toList ∧ l.length ≤ k ∧ Prs W A l.length k l := by
  obtain ⟨xs, n, _, hx, hlen, hxl, hf⟩ := DataW.trod_struct Try.underlying45 h
  rw [cRq] at hlen
  obtain ⟨c0, c1, c2, c3, c4, c5, c6, c7, c8, c9, c10, c11, c12, c13, c14, c15, c16, c17, c18, c19, rfl⟩ := list20 hlen
  obtain ⟨y0, y1, y2, y3, y4, y5, y6, y7, y8, y9, y10, y11, y12, y13, rfl⟩ := list14 hxl
  clear h hlen hxl
  have g0 := hf 0 _ rfl
  have g1 := hf 1 _ rfl
  have g2 := hf 2 _ rfl
  have g3 := hf 3 _ rfl
  have g4 := hf 4 _ rfl
  have g5 := hf 5 _ rfl
  have g6 := hf 6 _ rfl
  have g7 := hf 7 _ rfl
  have g8 := hf 8 _ rfl
  have g9 := hf 9 _ rfl
  have g10 := hf 10 _ rfl
  have g11 := hf 11 _ rfl
  have g12 := hf 12 _ rfl
  have g13 := hf 13 _ rfl
  simp [cI, cS, cPl, cSp, cPs] at g0 g1 g2 g3 g4 g5 g6 g7 g8 g9 g10 g11 g12 g13
  obtain ⟨xs3, m3, _, _, _, hl3, hf3⟩ := DataW.trod_struct Try.underlying40 g3
  obtain ⟨z3a, z3b, rfl⟩ := list2' hl3
  have g3a := hf3 0 _ rfl
  have g3b := hf3 1 _ rfl
  simp [cS, cI] at g3a g3b
  obtain ⟨xs4, m4, _, _, _, hl4, hf4⟩ := DataW.trod_struct Try.underlying40 g4
  obtain ⟨z4a, z4b, rfl⟩ := list2' hl4
  have g4a := hf4 0 _ rfl
  have g4b := hf4 1 _ rfl
  simp [cS, cI] at g4a g4b
  obtain ⟨xs5, m5, _, _, _, hl5, hf5⟩ := DataW.trod_struct Try.underlying42 g5
  obtain ⟨z5a, z5b, z5c, z5d, z5e, rfl⟩ := list5' hl5
  have g5a := hf5 0 _ rfl
  have g5b := hf5 1 _ rfl
  have g5c := hf5 2 _ rfl
  have g5d := hf5 3 _ rfl
  have g5e := hf5 4 _ rfl
  simp [cS, cI, cB] at g5a g5b g5c g5d g5e
  obtain ⟨v0, e0, _⟩ := DataW.trod_int Try.underlying3 g0
  obtain rfl := (List.cons.inj e0).1
  obtain ⟨v1, e1, _⟩ := DataW.trod_int Try.underlying3 g1
  obtain rfl := (List.cons.inj e1).1
  obtain ⟨v2, e2, _⟩ := DataW.trod_int Try.underlying3 g2
  obtain rfl := (List.cons.inj e2).1
  obtain ⟨v3, e3, _⟩ := DataW.trod_string Try.underlying9 g3a
  obtain rfl := (List.cons.inj e3).1
  obtain ⟨v4, e4, _⟩ := DataW.trod_int Try.underlying3 g3b
  obtain rfl := (List.cons.inj e4).1
  obtain ⟨v5, e5, _⟩ := DataW.trod_string Try.underlying9 g4a
  obtain rfl := (List.cons.inj e5).1
  obtain ⟨v6, e6, _⟩ := DataW.trod_int Try.underlying3 g4b
  obtain rfl := (List.cons.inj e6).1
  obtain ⟨v7, e7, _⟩ := DataW.trod_string Try.underlying9 g5a
  obtain rfl := (List.cons.inj e7).1
  obtain ⟨v8, e8, _⟩ := DataW.trod_int Try.underlying3 g5b
  obtain rfl := (List.cons.inj e8).1
  obtain ⟨v9, e9, _⟩ := DataW.trod_int Try.underlying3 g5c
  obtain rfl := (List.cons.inj e9).1
  obtain ⟨v10, e10, _⟩ := DataW.trod_int Try.underlying3 g5d
  obtain rfl := (List.cons.inj e10).1
  obtain ⟨v11, e11, _⟩ := DataW.trod_bool Try.underlying4 g5e
  obtain rfl := (List.cons.inj e11).1
  obtain ⟨v12, e12, _⟩ := DataW.trod_string Try.underlying9 g6
  obtain rfl := (List.cons.inj e12).1
  obtain ⟨v13, e13, _⟩ := DataW.trod_string Try.underlying9 g7
  obtain rfl := (List.cons.inj e13).1
  obtain ⟨v14, e14, _⟩ := DataW.trod_int Try.underlying3 g8
  obtain rfl := (List.cons.inj e14).1
  obtain ⟨v15, e15, _⟩ := DataW.trod_int Try.underlying3 g9
  obtain rfl := (List.cons.inj e15).1
  obtain ⟨v16, e16, _⟩ := DataW.trod_int Try.underlying3 g10
  obtain rfl := (List.cons.inj e16).1
  obtain ⟨v17, e17, _⟩ := DataW.trod_int Try.underlying3 g11
  obtain rfl := (List.cons.inj e17).1
  obtain ⟨v18, e18, _⟩ := DataW.trod_int Try.underlying3 g12
  obtain rfl := (List.cons.inj e18).1
  have hzp : (y13.1.weights Try.prog 43).all (· ≤ reachBytes) = true := by
    rw [hx] at hz
    rw [List.all_eq_true] at hz ⊢
    intro q hq
    refine hz q ?_
    simp only [DataW.weights, Try.underlying45]
    exact DataW.weights_mem_each (j := 13) rfl rfl q hq
  obtain ⟨A, k, l, e19, hk, hp⟩ := prs_open g13 hzp
  subst e19
  exact ⟨⟨v0, v1, v2, v3, v4, v5, v6, v7, v8, v9, v10, v11, v12, v13, v14, v15, v16, v17, v18⟩, A, k, l, rfl, hk, hp⟩
end
end Go.Proofs.Ytlgihjhlkpmpnaa.Wire
