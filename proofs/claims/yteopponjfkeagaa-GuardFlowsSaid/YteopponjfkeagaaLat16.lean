import Derived.Test.YteopponjfkeagaaLat12
import Derived.Deep.Grids
namespace Go.Proofs.Yteopponjfkeagaa.Lat
open Go.RowKit Go.Maps Go.Deep Go.ChangeShapes Go.WideShapes Go.Proofs.YteopponjfkeagaaW.PrintWords Go.Proofs.YteopponjfkeagaaW.PrintLast Go.Proofs.YteopponjfkeagaaW.PrintMore
set_option linter.unusedVariables false
set_option linter.unusedSimpArgs false

/-- a table that comes in, opened -/
theorem table_open {H : Type} {enc : TypeId × Value → H} {W : World} {a : Option Addr} {l c : Nat} {fuel : Nat} {x : DataW H × List MemPlace} (h : DataW.trod enc Try.prog W 0 (fun _ => true) true fuel 22 (Value.cells (.slice a l c)).toList = some x) :
    ∃ f : List (List Bool), f.length = l ∧ l ≤ c ∧ Kd.C (Kd.slice 4 Kd.bool) W a l f := by
  rcases open_bool_rows Try.underlying22 Try.underlying37 Try.underlying4 (by kernel_rfl) (by kernel_rfl) h with ⟨hcs, _⟩ | ⟨a', len, cap, A, L, C, B, hcs, _, hl, hm, _, hrows⟩
  · simp [Value.cells] at hcs
    obtain ⟨rfl, rfl, rfl⟩ := hcs
    exact ⟨[], rfl, Nat.le_refl _, Kd.C_nil _ _⟩
  · simp [Value.cells] at hcs
    obtain ⟨rfl, rfl, rfl⟩ := hcs
    have hmax : maxLen ≤ 9223372036854775807 := by unfold maxLen; omega
    refine ⟨(List.range l).map fun r => (List.range (L r)).map (B r), by simp, hl, by simp, by omega, fun hn => ⟨a', rfl, fun j p hj => ?_⟩⟩
    have hjl : j < l := by
      have := (List.getElem?_eq_some_iff.1 hj).1
      simpa using this
    obtain rfl : p = (List.range (L j)).map (B j) := by
      rw [List.getElem?_map, List.getElem?_range hjl] at hj
      exact (Option.some.inj hj).symm
    obtain ⟨r1, r2, r3, r4, r5⟩ := hrows j (by omega)
    have hlen : ((List.range (L j)).map (B j)).length = L j := by simp
    refine ⟨[.slice (A j) (L j) (C j)], rfl, ⟨A j, C j, by rw [hlen], by rw [hlen]; exact r2, by
      rw [hlen]
      refine ⟨hlen, by omega, fun h0 => ?_⟩
      cases hA : A j with
      | none => exact absurd (r4 hA) (by omega)
      | some aj =>
        refine ⟨aj, rfl, fun i b hi => ⟨[.bool b], rfl, rfl, fun q u hu => ?_⟩⟩
        have hil : i < L j := by
          have := (List.getElem?_eq_some_iff.1 hi).1
          simpa using this
        obtain rfl : b = B j i := by
          rw [List.getElem?_map, List.getElem?_range hil] at hi
          exact (Option.some.inj hi).symm
        obtain ⟨rfl, rfl⟩ : q = 0 ∧ u = .bool (B j i) := by
          cases q with
          | zero => exact ⟨rfl, by simpa using hu.symm⟩
          | succ q => simp at hu
        have e : aj.add (i * Kd.bool.sz + 0) = aj.add i := by
          show aj.add (i * 1 + 0) = aj.add i
          rw [Nat.mul_one, Nat.add_zero]
        rw [e]
        exact (r5 aj hA).2 i (by omega)⟩, fun i u hu => ?_⟩
    obtain ⟨rfl, rfl⟩ : i = 0 ∧ u = .slice (A j) (L j) (C j) := by
      cases i with
      | zero => exact ⟨rfl, by simpa using hu.symm⟩
      | succ i => simp at hu
    have e : a'.add (j * (Kd.slice 4 Kd.bool).sz + 0) = a'.add j := by
      show a'.add (j * 1 + 0) = a'.add j
      rw [Nat.mul_one, Nat.add_zero]
    rw [e]
    exact r1
end Go.Proofs.Yteopponjfkeagaa.Lat
