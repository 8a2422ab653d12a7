import Derived.Test.YteopponjfkeagaaLat6
namespace Go.Proofs.Yteopponjfkeagaa.Lat
open Go.RowKit Go.Maps Go.Proofs.YteopponjfkeagaaW.PrintWords Go.Proofs.YteopponjfkeagaaW.PrintLast Go.Proofs.YteopponjfkeagaaW.PrintMore
set_option linter.unusedVariables false
set_option linter.unusedSimpArgs false

/-- the one of some to which all flow -/
def greatestF (T : Int → Int → Bool) (l : List Int) : Int := (l.find? fun x => l.all fun y => T y x).getD (-1)
theorem take_all (p : Int → Bool) (l : List Int) (j : Nat) (h : j < l.length) : (l.take (j + 1)).all p = ((l.take j).all p && p (rd l j)) := by
  rw [List.take_succ_eq_append_getElem h, List.all_append]
  have : rd l (j : Int) = l[j] := by unfold rd; rw [Int.toNat_natCast, List.getD_eq_getElem?_getD, List.getElem?_eq_getElem h]; rfl
  rw [this]
  simp
theorem rd_get (l : List Int) (j : Nat) (h : j < l.length) : rd l (j : Int) = l[j] := by
  unfold rd; rw [Int.toNat_natCast, List.getD_eq_getElem?_getD, List.getElem?_eq_getElem h]; rfl
theorem rd_mem (l : List Int) (j : Nat) (h : j < l.length) : rd l (j : Int) ∈ l := by rw [rd_get l j h]; exact List.getElem_mem h
theorem greatest_at (T : Int → Int → Bool) (l : List Int) (i : Nat) (h : i < l.length) (hA : ∀ j : Nat, j < i → l.all (fun y => T y (rd l j)) = false) (hi : l.all (fun y => T y (rd l i)) = true) : greatestF T l = rd l i := by
  have : l.find? (fun x => l.all fun y => T y x) = some l[i] := by
    rw [List.find?_eq_some_iff_getElem]
    rw [rd_get l i h] at hi
    exact ⟨hi, i, h, rfl, fun j hj => by have := hA j hj; rw [rd_get l j (by omega)] at this; rw [this]; rfl⟩
  unfold greatestF
  rw [this, rd_get l i h]
  rfl
theorem greatest_none (T : Int → Int → Bool) (l : List Int) (hA : ∀ j : Nat, j < l.length → l.all (fun y => T y (rd l j)) = false) : greatestF T l = -1 := by
  have : l.find? (fun x => l.all fun y => T y x) = none := by
    rw [List.find?_eq_none]
    intro x hx
    obtain ⟨j, hj, rfl⟩ := List.getElem_of_mem hx
    have := hA j hj
    rw [rd_get l j hj] at this
    rw [this]
    decide
  unfold greatestF
  rw [this]
  rfl
set_option maxHeartbeats 2000000 in
theorem greatest_calls (k : Nat) (first caps : Array Value) (hk : ∀ args W, (callFunc k args).run Try.prog W = .ok (.enter k args) W) {A : Option Addr} {c : Nat} {l : List Int} {w : World} (hr : Kd.C (Kd.int .i64) w A l.length l) (hc : l.length ≤ c) (T : Int → Int → Bool)
    (hT : ∀ W, Below w.heap.size w W → ∀ y x : Int, y ∈ l → x ∈ l → Calls Try.prog k (first ++ (#[.int .i64 y, .int .i64 x] ++ caps)) W fun e w' => e = .returned (.bool (T y x)) ∧ Below W.heap.size W w') :
    Calls Try.prog 76 #[.slice A l.length c, .func (Fn.func k) first caps] w fun e w' => e = .returned (.int .i64 (greatestF T l)) ∧ Below w.heap.size w w' := by
  have HR := Aside0.mk hr
  have HB := Aside0.mk (Below.refl w.heap.size w)
  have HM : l.length ≤ 9223372036854775807 := Kd.C_max hr
  clear hr
  go_enter Try.func76, Try.ntmps76
  go_wp2_with fail
  go_loopw [12] (fun x wr => ∃ i : Nat, x = .int .i64 (i : Int) ∧ i ≤ l.length ∧ Aside0 (∀ j, j < i → l.all (fun y => T y (rd l j)) = false) ∧ Aside0 (Below w.heap.size w wr)) (fun x _ => l.length - (intOf x).toNat)
  case atStart => exact ⟨0, rfl, Nat.zero_le _, ⟨fun j h => absurd h (by omega)⟩, HB⟩
  case round =>
    clear HB
    obtain ⟨i, rfl, hi, HA, HB⟩ := hrel
    by_cases hx : (i : Int) < l.length
    · obtain ⟨ad, ea, hcell⟩ := Kd.at_int HR.out i (by omega) hx
      cases ea
      replace hcell := (HB.out.cell (World.block_lt_of_cell? w _ hcell)).trans hcell
      rw [Int.toNat_natCast] at hcell
      go_wp2_with fail
      go_loopw [7, 18] (fun al x wr' => ∃ j : Nat, x = .int .i64 (j : Int) ∧ j ≤ l.length ∧ al = .bool ((l.take j).all fun y => T y (rd l i)) ∧ Aside0 (Below w.heap.size w wr')) (fun _ x _ => l.length - (intOf x).toNat)
      case atStart => exact ⟨0, rfl, Nat.zero_le _, rfl, HB⟩
      case round =>
        clear HB hcell
        obtain ⟨j, rfl, hj, rfl, HB⟩ := hrel
        by_cases hy : (j : Int) < l.length
        · obtain ⟨ad2, ea2, hcell⟩ := Kd.at_int HR.out j (by omega) hy
          cases ea2
          replace hcell := (HB.out.cell (World.block_lt_of_cell? w _ hcell)).trans hcell
          rw [Int.toNat_natCast] at hcell
          cases hall : (l.take j).all fun y => T y (rd l i)
          · go_wp2_with fail
            exact ⟨⟨j + 1, rfl, by omega, by rw [take_all _ _ _ (by omega), hall]; rfl, HB⟩, by simp [intOf]; omega⟩
          · go_wp2_with fail
            refine (hT _ HB.out _ _ (rd_mem l j (by omega)) (rd_mem l i (by omega))).mono ?_
            rintro e w2 ⟨rfl, hb⟩
            have HB2 := Aside0.mk (below_step HB.out hb)
            clear hb
            go_wp2_with fail
            exact ⟨⟨j + 1, rfl, by omega, by rw [take_all _ _ _ (by omega), hall]; simp, HB2⟩, by simp [intOf]; omega⟩
        · obtain rfl : j = l.length := by omega
          rw [List.take_length]
          cases hall : l.all fun y => T y (rd l i)
          · go_wp2_with fail
            exact ⟨⟨i + 1, rfl, by omega, ⟨step_all HA.out hall⟩, HB⟩, by simp [intOf]; omega⟩
          · go_wp2_with fail
            go_ret
            exact ⟨by rw [greatest_at T l i (by omega) HA.out hall]; rfl, HB.out⟩
    · obtain rfl : i = l.length := by omega
      go_wp2_with fail
      go_ret
      exact ⟨by rw [greatest_none T l HA.out]; rfl, HB.out⟩
end Go.Proofs.Yteopponjfkeagaa.Lat
