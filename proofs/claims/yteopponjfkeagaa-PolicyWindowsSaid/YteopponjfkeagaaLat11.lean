import Derived.Test.YteopponjfkeagaaLat9
import Derived.Test.YteopponjfkeagaaLat10
import Derived.Laws.CopyRow
namespace Go.Proofs.Yteopponjfkeagaa.Lat
open Go.RowKit Go.Maps Go.Proofs.YteopponjfkeagaaW.PrintWords Go.Proofs.YteopponjfkeagaaW.PrintLast Go.Proofs.YteopponjfkeagaaW.PrintMore
set_option linter.unusedVariables false
set_option linter.unusedSimpArgs false

def rowOf (f : List (List Bool)) (i : Nat) : List Bool := f.getD i []
theorem at_row {w : World} {A : Option Addr} {n : Nat} {f : List (List Bool)} (h : Kd.C (Kd.slice 4 Kd.bool) w A n f) (i : Nat) (h1 : i < n) : ∃ ad A0 c0, A = some ad ∧ w.cell? (ad.add i) = some (.slice A0 (rowOf f i).length c0) ∧ (rowOf f i).length ≤ c0 ∧ Kd.bool.C w A0 (rowOf f i).length (rowOf f i) := by
  obtain ⟨ad, c, e, _, hK, hc0⟩ := Kd.C_get h ([] : List Bool) (i : Int) (by omega) (by omega)
  have hc : ∀ j u, c[j]? = some u → w.cell? (ad.add ((i : Int).toNat * 1 + j)) = some u := hc0
  obtain ⟨A0, c0, rfl, l0, g0⟩ := hK
  exact ⟨ad, A0, c0, e, by have hq := hc 0 _ rfl; rwa [Nat.mul_one, Nat.add_zero, Int.toNat_natCast] at hq, l0, g0⟩
theorem size_bool : (Try.prog.info? 4).map (·.size) = some 1 := by kernel_rfl
/-- a row goes over into the table -/
theorem copy_row {W : World} {g n : Nat} {F : Nat → Bool} {jm mm : Nat} {bot top : Int} (hg : W.heap[g]? = some (.cells (latC n F jm mm bot top) 79 (0, 0))) (i : Nat) (hi : i < 6) {ad : Addr} {row : List Bool} {c : Nat} (hr : row.length ≤ 6) (hR : Kd.bool.C W (some ad) row.length row) (ty : TypeId) :
    (Builtin.copy_ #[37, 37] ty #[.slice (some ⟨g, 1 + i * 6, none⟩) 6 6, .slice (some ad) row.length c]).run Try.prog W = .ok (goInt row.length) (W.setRow g (latC n (fun q => if i * 6 ≤ q ∧ q < i * 6 + row.length then row.getD (q - i * 6) false else F q) jm mm bot top)) := by
  have h := run_copy_row (P := Try.prog) W 37 37 ty 4 g (1 + i * 6) 6 6 ad row.length c (latC n F jm mm bot top) 79 (row.map Value.bool) Try.underlying37 size_bool hg (by rw [List.length_map]; exact (Nat.min_eq_left hr).symm) (by
    intro j v hj
    rw [List.getElem?_map] at hj
    obtain ⟨x, hx, rfl⟩ := Option.map_eq_some_iff.1 hj
    have hlt : j < row.length := (List.getElem?_eq_some_iff.1 hx).1
    obtain ⟨ad2, e, hc⟩ := Kd.at_bool hR (j : Int) (by omega) (by omega)
    cases e
    rw [Int.toNat_natCast] at hc
    rw [hc]
    unfold rdOf
    rw [Int.toNat_natCast, List.getD_eq_getElem?_getD, hx]
    rfl) (by have := latC_length n F jm mm bot top; rw [List.length_map]; simp only [Array.length_toList] at this; omega) (by intro v hv; obtain ⟨x, _, rfl⟩ := List.mem_map.1 hv; rfl)
  rw [latC_row n F jm mm bot top i row hi hr, List.length_map] at h
  exact h
end Go.Proofs.Yteopponjfkeagaa.Lat
