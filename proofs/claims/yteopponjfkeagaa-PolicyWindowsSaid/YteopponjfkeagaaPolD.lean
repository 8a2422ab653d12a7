import Derived.Test.YteopponjfkeagaaPolC
namespace Go.Proofs.Yteopponjfkeagaa.Lat
open Go.RowKit Go.Maps Go.Proofs.YteopponjfkeagaaW.PrintWords Go.Proofs.YteopponjfkeagaaW.PrintLast Go.Proofs.YteopponjfkeagaaW.PrintMore Go.Proofs.Yteopponjfkeagaa.PPol
set_option linter.unusedVariables false
set_option linter.unusedSimpArgs false

/-- a ledger of one rule, of which y were let down -/
def One (B : Nat) (W : World) (gl pg : Nat) (bud win at_ y : Int) : Prop := Led B W gl pg [⟨1, 0, bud⟩] win at_ [y]
section
variable {B : Nat} {w : World} {gl pg : Nat} {bud win at_ y : Int}
theorem One.later {W : World} (h : One B w gl pg bud win at_ y) (hb : Below w.heap.size w W) : One B W gl pg bud win at_ y := Led.later h hb
theorem One.base (h : One B w gl pg bud win at_ y) : B ≤ w.heap.size := by
  obtain ⟨_, _, h3, sg, _, h5, _⟩ := h
  exact Nat.le_trans h3 (Nat.le_of_lt (blk_lt h5))
theorem One.left (h : One B w gl pg bud win at_ y) (hy : 0 ≤ bud - y ∧ bud - y ≤ 1000000) : Calls Try.prog 49 #[P gl, .int .i64 0] w fun e w' => e = .returned (.int .i64 (bud - y)) ∧ Below w.heap.size w w' :=
  Left_in (i := 0) h (show (0 : Nat) < 1 by decide) ⟨hy.1, by have : leftF [⟨1, 0, bud⟩] [y] 0 = bud - y := rfl; rw [this]; omega⟩
theorem One.full (h : One B w gl pg bud win at_ y) (hy : bud - y = 0) : Calls Try.prog 46 #[P gl, .int .i64 0] w fun e w' => e = .returned (.int .i64 37) ∧ Below w.heap.size w w' :=
  Spend_zero (i := 0) h (show (0 : Nat) < 1 by decide) hy
theorem One.spend (h : One B w gl pg bud win at_ y) (hy : 0 < bud - y ∧ bud - y ≤ 1000000) (h0 : 0 ≤ y ∧ y ≤ 1000000) : Calls Try.prog 46 #[P gl, .int .i64 0] w fun e w' => e = .returned (.int .i64 0) ∧ One B w' gl pg bud win at_ (y + 1) ∧ Below B w w' :=
  Spend_in (i := 0) h (show (0 : Nat) < 1 by decide) ⟨hy.1, by have : leftF [⟨1, 0, bud⟩] [y] 0 = bud - y := rfl; rw [this]; omega⟩ (by have : rd [y] ((0 : Nat) : Int) = y := rfl; rw [this]; omega)
theorem One.tick (h : One B w gl pg bud win at_ y) (hw : 1 ≤ win ∧ win ≤ 1048576) (ha : 0 ≤ at_ ∧ at_ < win) : Calls Try.prog 45 #[P gl] w fun e w' => e = .returned (.tuple #[]) ∧ One B w' gl pg bud win (nextAt win at_) (if at_ + 1 = win then 0 else y) ∧ Below B w w' := by
  refine (Tick_calls h hw ha (by simp)).mono fun e w' q => ⟨q.1, ?_, q.2.2⟩
  have := q.2.1
  unfold nextSp at this
  unfold One
  split
  · rename_i e1
    rw [if_pos e1] at this
    exact this
  · rename_i e1
    rw [if_neg e1] at this
    exact this
end
theorem Below.base {B : Nat} {w W W' : World} (h : Below B w W) (hb : Below W.heap.size W W') (hB : B ≤ W.heap.size) : Below B w W' := h.trans (hb.mono hB)
theorem pn {bud : Int} (h : 1 ≤ bud ∧ bud ≤ 1048576) : polNew 2 (flR f2 2) [⟨1, 0, bud⟩] = 0 := by
  have hr : rightF 2 (flR f2 2) ⟨1, 0, bud⟩ = 0 := by
    unfold rightF
    rw [if_pos ⟨show inN 2 1 = true by decide, show inN 2 0 = true by decide, h.1, h.2⟩, if_pos ⟨show (1 : Int) ≠ 0 by decide, fl01⟩]
  show (if ([⟨1, 0, bud⟩] : List S58).length > 16 then (2 : Int) else polW 2 (flR f2 2) [] [⟨1, 0, bud⟩]) = 0
  refine (if_neg (show ¬ (1 : Nat) > 16 by decide)).trans ?_
  unfold polW
  rw [hr, if_neg (by decide), findJ_nil, if_neg (show ¬ (Option.isSome (none : Option Int)) = true by decide)]
  rfl
set_option maxHeartbeats 4000000 in
set_option maxRecDepth 8000 in
theorem ptwo_calls (w : World) : Calls Try.prog 42 #[] w fun e w' => e = .returned (.bool true) ∧ Below w.heap.size w w' := by
  have HC := Aside0.mk (two_C w)
  have HB : Aside0 (Below w.heap.size w (W2 w)) := Aside0.mk (below3 w (row2 true true) (row2 false true) (.cells #[sl2 w.heap.size, sl2 (w.heap.size + 1)] 37))
  go_enter Try.func42, Try.ntmps42
  go_wp2_with fail
  change Calls _ _ _ (W2 w) _
  generalize W2 w = W at *
  refine (New_calls' (n := 2) f2 ⟨rfl⟩ HC.out).mono ?_
  rintro e w1 ⟨hnew, hb⟩
  obtain ⟨g, rfl, hlat⟩ := new2 hnew
  clear hnew HC
  have HR := Aside0.mk (rule_C (blk_new w1 (.cells #[.int .i64 1, .int .i64 0, .int .i64 2] 58)))
  have hal := below_alloc (Below.refl w1.heap.size w1) (.cells #[.int .i64 1, .int .i64 0, .int .i64 2] 58)
  have HL := Aside0.mk (hlat.later hal)
  replace HB := Aside0.mk (below_step (below_step HB.out hb) hal)
  clear hb hlat hal
  go_wp2_with fail
  generalize w1.alloc (.cells #[.int .i64 1, .int .i64 0, .int .i64 2] 58) = W1 at *
  refine (PolNew_calls [⟨1, 0, 2⟩] ⟨rfl⟩ (by decide) (lat_sized HL.out) (lat_flowing HL.out (by decide)) HR.out).mono ?_
  rintro e w2 ⟨hnew, hb⟩
  obtain ⟨pg, rfl, hpol⟩ := pol2 (pn (by decide)) hnew
  have HP := Aside0.mk hpol
  replace HB := Aside0.mk (below_step HB.out hb)
  clear hb hpol hnew HR HL
  go_wp2_with fail
  refine (Ledger_calls HP.out (win := 10) (by decide) (by decide)).mono ?_
  rintro e w3 ⟨gl, rfl, hled, hb⟩
  have hsz := HB.out.size
  have HO : Aside0 (One w2.heap.size w3 gl pg 2 10 0 0) := ⟨hled⟩
  replace HB := Aside0.mk (below_step HB.out hb)
  clear hb hled HP
  obtain ⟨B, hB⟩ : ∃ B, w2.heap.size = B := ⟨_, rfl⟩
  rw [hB] at HO hsz
  clear hB
  go_wp2_with fail
  refine (HO.out.spend (by decide) (by decide)).mono ?_
  rintro e w4 ⟨rfl, ho, hb⟩
  replace HB := Aside0.mk (HB.out.trans (hb.mono hsz))
  replace HO := Aside0.mk ho
  clear ho hb
  go_wp2_with fail
  refine (HO.out.spend (by decide) (by decide)).mono ?_
  rintro e w5 ⟨rfl, ho, hb⟩
  replace HB := Aside0.mk (HB.out.trans (hb.mono hsz))
  replace HO := Aside0.mk ho
  clear ho hb
  go_wp2_with fail
  refine (HO.out.full (by decide)).mono ?_
  rintro e w6 ⟨rfl, hb⟩
  replace HB := Aside0.mk (HB.out.trans (hb.mono (Nat.le_trans hsz HO.out.base)))
  replace HO := Aside0.mk (HO.out.later hb)
  clear hb
  go_wp2_with fail
  go_loopw [35] (fun x wr => ∃ i : Nat, x = .int .i64 (i : Int) ∧ i ≤ 10 ∧ Aside0 (One B wr gl pg 2 10 (if i = 10 then 0 else i) (if i = 10 then 0 else 2)) ∧ Aside0 (Below w.heap.size w wr)) (fun x _ => 10 - (intOf x).toNat)
  case atStart => exact ⟨0, rfl, Nat.zero_le _, HO, HB⟩
  case round =>
    clear HO HB
    obtain ⟨i, rfl, hi, HO, HB⟩ := hrel
    by_cases hx : (i : Int) < 10
    · have hne : ¬ i = 10 := by omega
      rw [if_neg hne, if_neg hne] at HO
      go_wp2_with fail
      refine (HO.out.tick (by decide) ⟨by omega, by omega⟩).mono ?_
      rintro e v1 ⟨rfl, ho, hb⟩
      replace HB := Aside0.mk (HB.out.trans (hb.mono hsz))
      have HO2 : Aside0 (One B v1 gl pg 2 10 (if i + 1 = 10 then 0 else ((i + 1 : Nat) : Int)) (if i + 1 = 10 then 0 else 2)) := ⟨by
        unfold nextAt at ho
        by_cases h9 : i + 1 = 10
        · rw [if_pos h9, if_pos h9]
          rw [if_pos (by omega), if_pos (by omega)] at ho
          exact ho
        · rw [if_neg h9, if_neg h9]
          rw [if_neg (by omega), if_neg (by omega)] at ho
          exact ho⟩
      clear ho hb HO
      go_wp2_with fail
      exact ⟨⟨i + 1, rfl, by omega, HO2, HB⟩, by simp [intOf]; omega⟩
    · obtain rfl : i = 10 := by omega
      rw [if_pos rfl, if_pos rfl] at HO
      go_wp2_with fail
      refine (HO.out.spend (by decide) (by decide)).mono ?_
      rintro e v1 ⟨rfl, ho, hb⟩
      replace HB := Aside0.mk (HB.out.trans (hb.mono hsz))
      replace HO := Aside0.mk ho
      clear ho hb
      go_wp2_with fail
      refine (HO.out.left (by decide)).mono ?_
      rintro e v2 ⟨rfl, hb⟩
      replace HB := Aside0.mk (HB.out.trans (hb.mono (Nat.le_trans hsz HO.out.base)))
      replace HO := Aside0.mk (HO.out.later hb)
      clear hb
      go_wp2_with fail
      refine (Psize_calls HO.out.1).mono ?_
      rintro e v3 ⟨rfl, hb⟩
      replace HB := Aside0.mk (HB.out.trans (hb.mono (Nat.le_trans hsz HO.out.base)))
      clear hb
      go_wp2_with fail
      go_ret
      exact ⟨rfl, HB.out⟩
theorem ptwo_then {w W : World} (hb : Below w.heap.size w W) : Ok w w.heap.size W 42 #[] (.bool true) := (ptwo_calls W).mono fun e w' h => ⟨h.1, below_step hb h.2⟩
end Go.Proofs.Yteopponjfkeagaa.Lat
