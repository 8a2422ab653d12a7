import Derived.Test.YteopponjfkeagaaMd
import Derived.OpenShut
namespace Go.Proofs.Yteopponjfkeagaa.Lat
open Go.RowKit Go.Maps Go.Deep Go.ChangeShapes Go.WideShapes Go.Proofs.YteopponjfkeagaaW.PrintWords Go.Proofs.YteopponjfkeagaaW.PrintLast Go.Proofs.YteopponjfkeagaaW.PrintMore Go.Proofs.Yteopponjfkeagaa.PPol
set_option linter.unusedVariables false
set_option linter.unusedSimpArgs false

instance : Inhabited S58 := ⟨z58⟩
set_option maxRecDepth 100000 in
/-- rules that come in, opened -/
theorem rules_open {H : Type} {enc : TypeId × Value → H} {W : World} {a : Option Addr} {l c : Nat} {fuel : Nat} {x : DataW H × List MemPlace} (h : DataW.trod enc Try.prog W 0 (fun _ => true) true fuel 47 (Value.cells (.slice a l c)).toList = some x) :
    ∃ f : List S58, f.length = l ∧ l ≤ c ∧ Kd.C k58 W a l f := by
  rcases open_slice Try.underlying47 h with ⟨hcs, _⟩ | ⟨a', len, cap, m, n, D, Pl, hcs, _, hl, hm, hmm, _, hx⟩
  · simp [Value.cells] at hcs
    obtain ⟨rfl, rfl, rfl⟩ := hcs
    exact ⟨[], rfl, Nat.le_refl _, Kd.C_nil _ _⟩
  · simp [Value.cells] at hcs
    obtain ⟨rfl, rfl, rfl⟩ := hcs
    simp only [if_true] at hmm
    have hc3 : Try.prog.cellsOf 58 = 3 := by kernel_rfl
    have hc1 : Try.prog.cellsOf 3 = 1 := by kernel_rfl
    have each : ∀ i, i < l → ∃ r : S58, ∀ j u, [Value.int .i64 r.f0, .int .i64 r.f1, .int .i64 r.f2][j]? = some u → W.cell? (a'.add (i * 3 + j)) = some u := by
      intro i hi
      obtain ⟨cs', h1, h2⟩ := hx i (by omega)
      rw [hc3] at h1
      obtain ⟨_, hlen, hcell⟩ := World.cells?_some h1
      obtain ⟨xs, k, hk, hxy, _, hxl, hf⟩ := DataW.trod_struct Try.underlying58 h2
      match xs, hxl, cs', hlen with
      | [y0, y1, y2], _, [v0, v1, v2], _ =>
        have g0 := hf 0 _ rfl
        have g1 := hf 1 _ rfl
        have g2 := hf 2 _ rfl
        simp [hc1] at g0 g1 g2
        obtain ⟨x0, e0, _, _⟩ := DataW.trod_int Try.underlying3 g0
        obtain ⟨x1, e1, _, _⟩ := DataW.trod_int Try.underlying3 g1
        obtain ⟨x2, e2, _, _⟩ := DataW.trod_int Try.underlying3 g2
        simp only [List.cons.injEq, and_true] at e0 e1 e2
        subst e0 e1 e2
        refine ⟨⟨x0, x1, x2⟩, fun j u hu => ?_⟩
        have hj : j < 3 := by
          have := (List.getElem?_eq_some_iff.1 hu).1
          simpa using this
        have := hcell j hj
        rw [Go.Deep.add_add] at this
        rw [this]
        exact hu
    obtain ⟨r, hr⟩ := choose_lt each
    have hmax : maxLen ≤ 9223372036854775807 := by unfold maxLen; omega
    refine ⟨(List.range l).map r, by simp, hl, by simp, by omega, fun hn => ⟨a', rfl, fun j p hj => ?_⟩⟩
    have hjl : j < l := by
      have := (List.getElem?_eq_some_iff.1 hj).1
      simpa using this
    obtain rfl : p = r j := by
      rw [List.getElem?_map, List.getElem?_range hjl] at hj
      exact (Option.some.inj hj).symm
    exact ⟨_, rfl, k58_mk _ _, fun i u hu => hr j hjl i u hu⟩
/-- two numbers that come in, opened -/
theorem two_open {H : Type} {enc : TypeId × Value → H} {W : World} {v : Value} {fuel : Nat} {x : DataW H × List MemPlace} (h : DataW.trod enc Try.prog W 0 (fun _ => true) true fuel 66 v.cells.toList = some x) :
    ∃ q0 q1 : Int, v = .agg #[.int .i64 q0, .int .i64 q1] ∧ okI q0 ∧ okI q1 := by
  have hc2 : Try.prog.cellsOf 66 = 2 := by kernel_rfl
  have hc1 : Try.prog.cellsOf 3 = 1 := by kernel_rfl
  obtain ⟨xs, m, _, _, hlen, hxl, hf⟩ := DataW.trod_array Try.underlying66 h
  rw [hc2] at hlen
  obtain ⟨cs, hcs⟩ : ∃ cs, v.cells.toList = cs := ⟨_, rfl⟩
  rw [hcs] at hlen hf
  match cs, hlen, xs, hxl, hcs with
  | [c0, c1], _, [y0, y1], _, hcs =>
    have g0 := hf 0 (by decide)
    have g1 := hf 1 (by decide)
    simp [hc1] at g0 g1
    obtain ⟨q0, e0, _, w0⟩ := DataW.trod_int Try.underlying3 g0
    obtain ⟨q1, e1, _, w1⟩ := DataW.trod_int Try.underlying3 g1
    simp only [List.cons.injEq, and_true] at e0 e1
    subst e0 e1
    refine ⟨q0, q1, ?_, w0, w1⟩
    cases v with
    | agg a =>
      have : a.toList = [.int .i64 q0, .int .i64 q1] := hcs
      have h2 : a = #[.int .i64 q0, .int .i64 q1] := by
        apply Array.ext'
        rw [this]
      rw [h2]
    | _ => simp [Value.cells] at hcs
end Go.Proofs.Yteopponjfkeagaa.Lat
