-- Laid by a program of this session (wip/pr/mkprint.py: the print of the kit, turned to take hand-proved contracts).
import Derived.Test.YteopponjfkeagaaPLatticex0
namespace Go.Proofs.Yteopponjfkeagaa.PLattice
open Go.RowKit Go.Proofs.YteopponjfkeagaaW.PrintWords Go.Proofs.YteopponjfkeagaaW.PrintLast Go.Proofs.YteopponjfkeagaaW.PrintMore
attribute [local go_sem] max2_int min2_int max_two min_two max_three min_three max_four min_four   -- for this text's walks alone
set_option linter.unusedVariables false
set_option linter.unusedSimpArgs false

/-! ### weighlockref04_Order: function 63 -/
mutual
def weighlockref04_Order.l0 : Nat → List (List Bool) → Int → Int → Option (Bool)
  | 0, _, _, _ => none
  | k + 1, x0, x7, x8 => if x8 < x7 then (weighlockref04_Order.l1 k x0 x8 x7 x8 (x0.length : Int) 0) else (some true)
def weighlockref04_Order.l1 : Nat → List (List Bool) → Int → Int → Int → Int → Int → Option (Bool)
  | 0, _, _, _, _, _, _ => none
  | k + 1, x0, x3, x7, x8, x12, x13 => if x13 < x12 then (if x3 = x13 then (if 0 ≤ x3 then (if x3 < (x0.length : Int) then (if 0 ≤ x13 then (if x13 < ((rd_L1 x0 x3).length : Int) then (if (rdOf false (rd_L1 x0 x3) x13 = true) then (weighlockref04_Order.j2 k x0 x3 x13 x7 x8 x12 x13 false) else (weighlockref04_Order.j2 k x0 x3 x13 x7 x8 x12 x13 true)) else (none)) else (none)) else (none)) else (none)) else (if 0 ≤ x3 then (if x3 < (x0.length : Int) then (if 0 ≤ x13 then (if x13 < ((rd_L1 x0 x3).length : Int) then (if rdOf false (rd_L1 x0 x3) x13 = true then (if x13 < (x0.length : Int) then (if x3 < ((rd_L1 x0 x13).length : Int) then (weighlockref04_Order.j2 k x0 x3 x13 x7 x8 x12 x13 (rdOf false (rd_L1 x0 x13) x3)) else (none)) else (none)) else (weighlockref04_Order.j2 k x0 x3 x13 x7 x8 x12 x13 false)) else (none)) else (none)) else (none)) else (none))) else (weighlockref04_Order.l0 k x0 x7 (wrap64 (x8 + 1)))
def weighlockref04_Order.j2 : Nat → List (List Bool) → Int → Int → Int → Int → Int → Int → Bool → Option (Bool)
  | 0, _, _, _, _, _, _, _, _ => none
  | k + 1, x0, x3, x4, x7, x8, x12, x13, x51 => if x51 = true then (some false) else (weighlockref04_Order.l2 k x0 x3 x4 x7 x8 x12 x13 (x0.length : Int) 0)
def weighlockref04_Order.l2 : Nat → List (List Bool) → Int → Int → Int → Int → Int → Int → Int → Int → Option (Bool)
  | 0, _, _, _, _, _, _, _, _, _ => none
  | k + 1, x0, x3, x4, x7, x8, x12, x13, x53, x54 => if x54 < x53 then (if 0 ≤ x3 then (if x3 < (x0.length : Int) then (if 0 ≤ x4 then (if x4 < ((rd_L1 x0 x3).length : Int) then (if rdOf false (rd_L1 x0 x3) x4 = true then (if x4 < (x0.length : Int) then (if 0 ≤ x54 then (if x54 < ((rd_L1 x0 x4).length : Int) then (if rdOf false (rd_L1 x0 x4) x54 = true then (if x54 < ((rd_L1 x0 x3).length : Int) then (if (rdOf false (rd_L1 x0 x3) x54 = true) then (weighlockref04_Order.l2 k x0 x3 x4 x7 x8 x12 x13 x53 (wrap64 (x54 + 1))) else (some false)) else (none)) else (weighlockref04_Order.l2 k x0 x3 x4 x7 x8 x12 x13 x53 (wrap64 (x54 + 1)))) else (none)) else (none)) else (none)) else (weighlockref04_Order.l2 k x0 x3 x4 x7 x8 x12 x13 x53 (wrap64 (x54 + 1)))) else (none)) else (none)) else (none)) else (none)) else (weighlockref04_Order.l1 k x0 x3 x7 x8 x12 (wrap64 (x13 + 1)))
end
def weighlockref04_Order.f (k : Nat) (l0 : List (List Bool)) : Option (Bool) := weighlockref04_Order.l0 k l0 (l0.length : Int) 0
theorem weighlockref04_Order.mono_l : ∀ k, (∀ y0 y1 y2, LeO (weighlockref04_Order.l0 k y0 y1 y2) (weighlockref04_Order.l0 (k + 1) y0 y1 y2)) ∧ (∀ y0 y1 y2 y3 y4 y5, LeO (weighlockref04_Order.l1 k y0 y1 y2 y3 y4 y5) (weighlockref04_Order.l1 (k + 1) y0 y1 y2 y3 y4 y5)) ∧ (∀ y0 y1 y2 y3 y4 y5 y6 y7, LeO (weighlockref04_Order.j2 k y0 y1 y2 y3 y4 y5 y6 y7) (weighlockref04_Order.j2 (k + 1) y0 y1 y2 y3 y4 y5 y6 y7)) ∧ (∀ y0 y1 y2 y3 y4 y5 y6 y7 y8, LeO (weighlockref04_Order.l2 k y0 y1 y2 y3 y4 y5 y6 y7 y8) (weighlockref04_Order.l2 (k + 1) y0 y1 y2 y3 y4 y5 y6 y7 y8))
  | 0 => ⟨fun _ _ _ r h => by simp [weighlockref04_Order.l0] at h, fun _ _ _ _ _ _ r h => by simp [weighlockref04_Order.l1] at h, fun _ _ _ _ _ _ _ _ r h => by simp [weighlockref04_Order.j2] at h, fun _ _ _ _ _ _ _ _ _ r h => by simp [weighlockref04_Order.l2] at h⟩
  | k + 1 => by
    obtain ⟨ih0, ih1, ih2, ih3⟩ := weighlockref04_Order.mono_l k
    refine ⟨?_, ?_, ?_, ?_⟩
    · intro y0 y1 y2
      unfold weighlockref04_Order.l0
      repeat' first
      | (with_reducible exact ih0 _ _ _)
      | (with_reducible exact ih1 _ _ _ _ _ _)
      | (with_reducible exact ih2 _ _ _ _ _ _ _ _)
      | (with_reducible exact ih3 _ _ _ _ _ _ _ _ _)
      | (with_reducible exact LeO.refl _)
      | (with_reducible exact LeO.none _)
      | (with_reducible refine LeO.ite ?_ ?_)
      | (with_reducible refine LeO.bind ?_ (fun _ => ?_))
      | exact ih0 _ _ _
      | exact ih1 _ _ _ _ _ _
      | exact ih2 _ _ _ _ _ _ _ _
      | exact ih3 _ _ _ _ _ _ _ _ _
      | exact LeO.none _
      | refine LeO.ite ?_ ?_
      | refine LeO.bind ?_ (fun _ => ?_)
    · intro y0 y1 y2 y3 y4 y5
      unfold weighlockref04_Order.l1
      repeat' first
      | (with_reducible exact ih0 _ _ _)
      | (with_reducible exact ih1 _ _ _ _ _ _)
      | (with_reducible exact ih2 _ _ _ _ _ _ _ _)
      | (with_reducible exact ih3 _ _ _ _ _ _ _ _ _)
      | (with_reducible exact LeO.refl _)
      | (with_reducible exact LeO.none _)
      | (with_reducible refine LeO.ite ?_ ?_)
      | (with_reducible refine LeO.bind ?_ (fun _ => ?_))
      | exact ih0 _ _ _
      | exact ih1 _ _ _ _ _ _
      | exact ih2 _ _ _ _ _ _ _ _
      | exact ih3 _ _ _ _ _ _ _ _ _
      | exact LeO.none _
      | refine LeO.ite ?_ ?_
      | refine LeO.bind ?_ (fun _ => ?_)
    · intro y0 y1 y2 y3 y4 y5 y6 y7
      unfold weighlockref04_Order.j2
      repeat' first
      | (with_reducible exact ih0 _ _ _)
      | (with_reducible exact ih1 _ _ _ _ _ _)
      | (with_reducible exact ih2 _ _ _ _ _ _ _ _)
      | (with_reducible exact ih3 _ _ _ _ _ _ _ _ _)
      | (with_reducible exact LeO.refl _)
      | (with_reducible exact LeO.none _)
      | (with_reducible refine LeO.ite ?_ ?_)
      | (with_reducible refine LeO.bind ?_ (fun _ => ?_))
      | exact ih0 _ _ _
      | exact ih1 _ _ _ _ _ _
      | exact ih2 _ _ _ _ _ _ _ _
      | exact ih3 _ _ _ _ _ _ _ _ _
      | exact LeO.none _
      | refine LeO.ite ?_ ?_
      | refine LeO.bind ?_ (fun _ => ?_)
    · intro y0 y1 y2 y3 y4 y5 y6 y7 y8
      unfold weighlockref04_Order.l2
      repeat' first
      | (with_reducible exact ih0 _ _ _)
      | (with_reducible exact ih1 _ _ _ _ _ _)
      | (with_reducible exact ih2 _ _ _ _ _ _ _ _)
      | (with_reducible exact ih3 _ _ _ _ _ _ _ _ _)
      | (with_reducible exact LeO.refl _)
      | (with_reducible exact LeO.none _)
      | (with_reducible refine LeO.ite ?_ ?_)
      | (with_reducible refine LeO.bind ?_ (fun _ => ?_))
      | exact ih0 _ _ _
      | exact ih1 _ _ _ _ _ _
      | exact ih2 _ _ _ _ _ _ _ _
      | exact ih3 _ _ _ _ _ _ _ _ _
      | exact LeO.none _
      | refine LeO.ite ?_ ?_
      | refine LeO.bind ?_ (fun _ => ?_)
theorem weighlockref04_Order.mono : ∀ a0 k, LeO (weighlockref04_Order.f k a0) (weighlockref04_Order.f (k + 1) a0) := by
  intro a0 k
  obtain ⟨ih0, ih1, ih2, ih3⟩ := weighlockref04_Order.mono_l k
  unfold weighlockref04_Order.f
  repeat' first
      | (with_reducible exact ih0 _ _ _)
      | (with_reducible exact ih1 _ _ _ _ _ _)
      | (with_reducible exact ih2 _ _ _ _ _ _ _ _)
      | (with_reducible exact ih3 _ _ _ _ _ _ _ _ _)
      | (with_reducible exact LeO.refl _)
      | (with_reducible exact LeO.none _)
      | (with_reducible refine LeO.ite ?_ ?_)
      | (with_reducible refine LeO.bind ?_ (fun _ => ?_))
      | exact ih0 _ _ _
      | exact ih1 _ _ _ _ _ _
      | exact ih2 _ _ _ _ _ _ _ _
      | exact ih3 _ _ _ _ _ _ _ _ _
      | exact LeO.none _
      | refine LeO.ite ?_ ?_
      | refine LeO.bind ?_ (fun _ => ?_)
set_option maxHeartbeats 8000000 in
set_option maxRecDepth 100000 in
theorem weighlockref04_Order.calls (k : Nat) (A0 : Option Addr) (c0 : Nat) (l0 : List (List Bool)) (r : Bool) (w : World) (hr0 : Kd.C (Kd.slice 4 Kd.bool) w A0 l0.length l0) (hc0 : l0.length ≤ c0) (h : weighlockref04_Order.f k l0 = some r) :
    Calls Try.prog 63 #[.slice A0 l0.length c0] w fun e w' => e = .returned (.bool r) ∧ Drawn0 w w' := by
  have HR0 := Aside0.mk hr0
  have HC0 := Aside0.mk hc0
  clear hr0 hc0
  have H : (weighlockref04_Order.l0 k l0 (l0.length : Int) 0) = some r := h
  clear h
  have H' := Aside0.mk H
  clear H
  go_enter Try.func63, Try.ntmps63
  go_wp2
  go_loopg [8] k (fun kq v8 w' => ∃ (x8_1 : Int), v8 = .int .i64 x8_1 ∧ Aside0 (weighlockref04_Order.l0 kq l0 (l0.length : Int) x8_1 = some r) ∧ Aside0 (kq ≤ k) ∧ Drawn0 w w')
  case atStart => exact ⟨(0), (by first | rfl | (simp; done) | (simp [*]; done)), H', ⟨Nat.le_refl _⟩, by repeat (first | exact Drawn0.refl _ | apply Drawn0.step)⟩
  case round =>
    clear H'
    obtain ⟨x8_1, rfl, HA, HK1, ⟨m1, rfl⟩⟩ := hrel
    cases gk with
    | zero => exact absurd HA.out (by simp [weighlockref04_Order.l0])
    | succ k1 =>
      have H := HA.out
      clear HA
      simp only [weighlockref04_Order.l0] at H
      by_cases c2 : x8_1 < (l0.length : Int)
      · rw [if_pos c2] at H
        have c2b0 : decide (x8_1 < (l0.length : Int)) = true := decide_eq_true c2
        clear c2
        have H' := Aside0.mk H
        clear H
        go_wp2
        go_loopg [13] k1 (fun kq v13 w' => ∃ (x13_2 : Int), v13 = .int .i64 x13_2 ∧ Aside0 (weighlockref04_Order.l1 kq l0 x8_1 (l0.length : Int) x8_1 (l0.length : Int) x13_2 = some r) ∧ Aside0 (kq ≤ k1) ∧ Drawn0 w w')
        case atStart => exact ⟨(0), (by first | rfl | (simp; done) | (simp [*]; done)), H', ⟨Nat.le_refl _⟩, by repeat (first | exact Drawn0.refl _ | apply Drawn0.step)⟩
        case round =>
          clear H'
          try clear c2
          try clear c2b0
          try clear p2
          obtain ⟨x13_2, rfl, HA, HK2, ⟨m2, rfl⟩⟩ := hrel
          cases gk with
          | zero => exact absurd HA.out (by simp [weighlockref04_Order.l1])
          | succ k2 =>
            have H := HA.out
            clear HA
            simp only [weighlockref04_Order.l1] at H
            by_cases c3 : x13_2 < (l0.length : Int)
            · rw [if_pos c3] at H
              have c3b0 : decide (x13_2 < (l0.length : Int)) = true := decide_eq_true c3
              clear c3
              have HC4 := Aside0.mk H
              clear H
              go_upto_region 7 with (fail)
              go_cut [51] (fun v51 wc => ∃ (kq : Nat) (x51_3 : Bool), v51 = .bool x51_3 ∧ Aside0 (weighlockref04_Order.j2 kq l0 x8_1 x13_2 (l0.length : Int) x8_1 (l0.length : Int) x13_2 x51_3 = some r) ∧ Aside0 (kq ≤ k2) ∧ Drawn0 w wc)
              case first =>
                have H := HC4.out
                clear HC4
                by_cases c5 : x8_1 = x13_2
                · rw [if_pos c5] at H
                  have c5b0 : (x8_1 == x13_2) = true := beq_iff_eq.mpr c5
                  have c5b1 : (x8_1 != x13_2) = false := bne_eq_false_iff_eq.mpr c5
                  clear c5
                  (first | rw [c5b0] | (simp only [i64_w, i32_w]; rw [c5b0]) | skip)
                  by_cases c6 : 0 ≤ x8_1
                  · rw [if_pos c6] at H
                    have c6b0 : decide (0 ≤ x8_1) = true := decide_eq_true c6
                    clear c6
                    by_cases c7 : x8_1 < (l0.length : Int)
                    · rw [if_pos c7] at H
                      have c7b0 : decide (x8_1 < (l0.length : Int)) = true := decide_eq_true c7
                      clear c7
                      by_cases c8 : 0 ≤ x13_2
                      · rw [if_pos c8] at H
                        have c8b0 : decide (0 ≤ x13_2) = true := decide_eq_true c8
                        clear c8
                        by_cases c9 : x13_2 < ((rd_L1 l0 x8_1).length : Int)
                        · rw [if_pos c9] at H
                          have c9b0 : decide (x13_2 < ((rd_L1 l0 x8_1).length : Int)) = true := decide_eq_true c9
                          clear c9
                          obtain ⟨bq10, hbq10⟩ : ∃ b_ : Bool, b_ = (rdOf false (rd_L1 l0 x8_1) x13_2) := ⟨_, rfl⟩
                          replace H : (if (bq10 = true) then (weighlockref04_Order.j2 k2 l0 x8_1 x13_2 (l0.length : Int) x8_1 (l0.length : Int) x13_2 false) else (weighlockref04_Order.j2 k2 l0 x8_1 x13_2 (l0.length : Int) x8_1 (l0.length : Int) x13_2 true)) = some r := by rw [← hbq10] at H; exact H
                          have Nbq10 := Aside0.mk hbq10
                          clear hbq10
                          by_cases c11 : (bq10 = true)
                          · subst c11
                            have H1 : (weighlockref04_Order.j2 k2 l0 x8_1 x13_2 (l0.length : Int) x8_1 (l0.length : Int) x13_2 false) = some r := by rw [if_pos rfl] at H; exact H
                            clear H
                            have H := H1
                            clear H1
                            have H' := Aside0.mk H
                            clear H
                            have p141 : 0 ≤ (x8_1 : Int) := of_decide_eq_true (by first | (with_reducible assumption) | assumption)
                            have q141 : x8_1 < (l0.length : Int) := of_decide_eq_true (by first | (with_reducible assumption) | assumption)
                            obtain ⟨ad141, A141_0, c141_0, e141, hx141_0, hl141_0, hi141_0⟩ := at_L1 HR0.out x8_1 p141 q141
                            cases e141
                            have HR141_0 := Aside0.mk hi141_0
                            have HC141_0 := Aside0.mk hl141_0
                            clear hi141_0 hl141_0
                            replace p141 := eq_true p141
                            replace q141 := eq_true q141
                            have p142 : 0 ≤ (x13_2 : Int) := of_decide_eq_true (by first | (with_reducible assumption) | assumption)
                            have q142 : x13_2 < ((rd_L1 l0 x8_1).length : Int) := of_decide_eq_true (by first | (with_reducible assumption) | assumption)
                            obtain ⟨ad142, e142, hx142_0⟩ := Kd.at_bool HR141_0.out x13_2 p142 q142
                            (try rw [← Nbq10.out] at hx142_0)
                            cases e142
                            replace p142 := eq_true p142
                            replace q142 := eq_true q142
                            go_wp2
                            go_meet
                            case rel => exact ⟨_, (false), (by first | rfl | (simp; done) | (simp [*]; done)), H', ⟨by have := HK1.out; have := HK2.out; first | omega | exact Nat.le_refl _⟩, by repeat (first | exact Drawn0.refl _ | apply Drawn0.step)⟩
                          · replace c11 := Bool.eq_false_iff.mpr c11
                            subst c11
                            have H1 : (weighlockref04_Order.j2 k2 l0 x8_1 x13_2 (l0.length : Int) x8_1 (l0.length : Int) x13_2 true) = some r := by rw [if_neg (show ¬ (false = true) by decide)] at H; exact H
                            clear H
                            have H := H1
                            clear H1
                            have H' := Aside0.mk H
                            clear H
                            have p141 : 0 ≤ (x8_1 : Int) := of_decide_eq_true (by first | (with_reducible assumption) | assumption)
                            have q141 : x8_1 < (l0.length : Int) := of_decide_eq_true (by first | (with_reducible assumption) | assumption)
                            obtain ⟨ad141, A141_0, c141_0, e141, hx141_0, hl141_0, hi141_0⟩ := at_L1 HR0.out x8_1 p141 q141
                            cases e141
                            have HR141_0 := Aside0.mk hi141_0
                            have HC141_0 := Aside0.mk hl141_0
                            clear hi141_0 hl141_0
                            replace p141 := eq_true p141
                            replace q141 := eq_true q141
                            have p142 : 0 ≤ (x13_2 : Int) := of_decide_eq_true (by first | (with_reducible assumption) | assumption)
                            have q142 : x13_2 < ((rd_L1 l0 x8_1).length : Int) := of_decide_eq_true (by first | (with_reducible assumption) | assumption)
                            obtain ⟨ad142, e142, hx142_0⟩ := Kd.at_bool HR141_0.out x13_2 p142 q142
                            (try rw [← Nbq10.out] at hx142_0)
                            cases e142
                            replace p142 := eq_true p142
                            replace q142 := eq_true q142
                            go_wp2
                            go_meet
                            case rel => exact ⟨_, (true), (by first | rfl | (simp; done) | (simp [*]; done)), H', ⟨by have := HK1.out; have := HK2.out; first | omega | exact Nat.le_refl _⟩, by repeat (first | exact Drawn0.refl _ | apply Drawn0.step)⟩
                        · rw [if_neg c9] at H
                          exact absurd H (by simp)
                      · rw [if_neg c8] at H
                        exact absurd H (by simp)
                    · rw [if_neg c7] at H
                      exact absurd H (by simp)
                  · rw [if_neg c6] at H
                    exact absurd H (by simp)
                · rw [if_neg c5] at H
                  have c5b0 : (x8_1 == x13_2) = false := beq_eq_false_iff_ne.mpr c5
                  have c5b1 : (x8_1 != x13_2) = true := bne_iff_ne.mpr c5
                  (first | rw [c5b0] | (simp only [i64_w, i32_w]; rw [c5b0]) | skip)
                  by_cases c12 : 0 ≤ x8_1
                  · rw [if_pos c12] at H
                    have c12b0 : decide (0 ≤ x8_1) = true := decide_eq_true c12
                    clear c12
                    by_cases c13 : x8_1 < (l0.length : Int)
                    · rw [if_pos c13] at H
                      have c13b0 : decide (x8_1 < (l0.length : Int)) = true := decide_eq_true c13
                      clear c13
                      by_cases c14 : 0 ≤ x13_2
                      · rw [if_pos c14] at H
                        have c14b0 : decide (0 ≤ x13_2) = true := decide_eq_true c14
                        clear c14
                        by_cases c15 : x13_2 < ((rd_L1 l0 x8_1).length : Int)
                        · rw [if_pos c15] at H
                          have c15b0 : decide (x13_2 < ((rd_L1 l0 x8_1).length : Int)) = true := decide_eq_true c15
                          clear c15
                          obtain ⟨bq16, hbq16⟩ : ∃ b_ : Bool, b_ = (rdOf false (rd_L1 l0 x8_1) x13_2) := ⟨_, rfl⟩
                          replace H : (if bq16 = true then (if x13_2 < (l0.length : Int) then (if x8_1 < ((rd_L1 l0 x13_2).length : Int) then (weighlockref04_Order.j2 k2 l0 x8_1 x13_2 (l0.length : Int) x8_1 (l0.length : Int) x13_2 (rdOf false (rd_L1 l0 x13_2) x8_1)) else (none)) else (none)) else (weighlockref04_Order.j2 k2 l0 x8_1 x13_2 (l0.length : Int) x8_1 (l0.length : Int) x13_2 false)) = some r := by rw [← hbq16] at H; exact H
                          have Nbq16 := Aside0.mk hbq16
                          clear hbq16
                          by_cases c17 : bq16 = true
                          · subst c17
                            have H1 : (if x13_2 < (l0.length : Int) then (if x8_1 < ((rd_L1 l0 x13_2).length : Int) then (weighlockref04_Order.j2 k2 l0 x8_1 x13_2 (l0.length : Int) x8_1 (l0.length : Int) x13_2 (rdOf false (rd_L1 l0 x13_2) x8_1)) else (none)) else (none)) = some r := by rw [if_pos rfl] at H; exact H
                            clear H
                            have H := H1
                            clear H1
                            by_cases c18 : x13_2 < (l0.length : Int)
                            · rw [if_pos c18] at H
                              have c18b0 : decide (x13_2 < (l0.length : Int)) = true := decide_eq_true c18
                              clear c18
                              by_cases c19 : x8_1 < ((rd_L1 l0 x13_2).length : Int)
                              · rw [if_pos c19] at H
                                have c19b0 : decide (x8_1 < ((rd_L1 l0 x13_2).length : Int)) = true := decide_eq_true c19
                                clear c19
                                have H' := Aside0.mk H
                                clear H
                                have p143 : 0 ≤ (x8_1 : Int) := of_decide_eq_true (by first | (with_reducible assumption) | assumption)
                                have q143 : x8_1 < (l0.length : Int) := of_decide_eq_true (by first | (with_reducible assumption) | assumption)
                                obtain ⟨ad143, A143_0, c143_0, e143, hx143_0, hl143_0, hi143_0⟩ := at_L1 HR0.out x8_1 p143 q143
                                cases e143
                                have HR143_0 := Aside0.mk hi143_0
                                have HC143_0 := Aside0.mk hl143_0
                                clear hi143_0 hl143_0
                                replace p143 := eq_true p143
                                replace q143 := eq_true q143
                                have p144 : 0 ≤ (x13_2 : Int) := of_decide_eq_true (by first | (with_reducible assumption) | assumption)
                                have q144 : x13_2 < ((rd_L1 l0 x8_1).length : Int) := of_decide_eq_true (by first | (with_reducible assumption) | assumption)
                                obtain ⟨ad144, e144, hx144_0⟩ := Kd.at_bool HR143_0.out x13_2 p144 q144
                                (try rw [← Nbq16.out] at hx144_0)
                                cases e144
                                replace p144 := eq_true p144
                                replace q144 := eq_true q144
                                have p145 : 0 ≤ (x13_2 : Int) := of_decide_eq_true (by first | (with_reducible assumption) | assumption)
                                have q145 : x13_2 < (l0.length : Int) := of_decide_eq_true (by first | (with_reducible assumption) | assumption)
                                obtain ⟨ad145, A145_0, c145_0, e145, hx145_0, hl145_0, hi145_0⟩ := at_L1 HR0.out x13_2 p145 q145
                                obtain rfl : ad143 = ad145 := (by injection e145)
                                have HR145_0 := Aside0.mk hi145_0
                                have HC145_0 := Aside0.mk hl145_0
                                clear hi145_0 hl145_0
                                replace p145 := eq_true p145
                                replace q145 := eq_true q145
                                have p146 : 0 ≤ (x8_1 : Int) := of_decide_eq_true (by first | (with_reducible assumption) | assumption)
                                have q146 : x8_1 < ((rd_L1 l0 x13_2).length : Int) := of_decide_eq_true (by first | (with_reducible assumption) | assumption)
                                obtain ⟨ad146, e146, hx146_0⟩ := Kd.at_bool HR145_0.out x8_1 p146 q146
                                (try rw [← Nbq16.out] at hx146_0)
                                cases e146
                                replace p146 := eq_true p146
                                replace q146 := eq_true q146
                                go_wp2
                                go_meet
                                case rel => exact ⟨_, (rdOf false (rd_L1 l0 x13_2) x8_1), (by first | rfl | (simp; done) | (simp [*]; done)), H', ⟨by have := HK1.out; have := HK2.out; first | omega | exact Nat.le_refl _⟩, by repeat (first | exact Drawn0.refl _ | apply Drawn0.step)⟩
                              · rw [if_neg c19] at H
                                exact absurd H (by simp)
                            · rw [if_neg c18] at H
                              exact absurd H (by simp)
                          · replace c17 := Bool.eq_false_iff.mpr c17
                            subst c17
                            have H1 : (weighlockref04_Order.j2 k2 l0 x8_1 x13_2 (l0.length : Int) x8_1 (l0.length : Int) x13_2 false) = some r := by rw [if_neg (show ¬ (false = true) by decide)] at H; exact H
                            clear H
                            have H := H1
                            clear H1
                            have H' := Aside0.mk H
                            clear H
                            have p143 : 0 ≤ (x8_1 : Int) := of_decide_eq_true (by first | (with_reducible assumption) | assumption)
                            have q143 : x8_1 < (l0.length : Int) := of_decide_eq_true (by first | (with_reducible assumption) | assumption)
                            obtain ⟨ad143, A143_0, c143_0, e143, hx143_0, hl143_0, hi143_0⟩ := at_L1 HR0.out x8_1 p143 q143
                            cases e143
                            have HR143_0 := Aside0.mk hi143_0
                            have HC143_0 := Aside0.mk hl143_0
                            clear hi143_0 hl143_0
                            replace p143 := eq_true p143
                            replace q143 := eq_true q143
                            have p144 : 0 ≤ (x13_2 : Int) := of_decide_eq_true (by first | (with_reducible assumption) | assumption)
                            have q144 : x13_2 < ((rd_L1 l0 x8_1).length : Int) := of_decide_eq_true (by first | (with_reducible assumption) | assumption)
                            obtain ⟨ad144, e144, hx144_0⟩ := Kd.at_bool HR143_0.out x13_2 p144 q144
                            (try rw [← Nbq16.out] at hx144_0)
                            cases e144
                            replace p144 := eq_true p144
                            replace q144 := eq_true q144
                            go_wp2
                            go_meet
                            case rel => exact ⟨_, (false), (by first | rfl | (simp; done) | (simp [*]; done)), H', ⟨by have := HK1.out; have := HK2.out; first | omega | exact Nat.le_refl _⟩, by repeat (first | exact Drawn0.refl _ | apply Drawn0.step)⟩
                        · rw [if_neg c15] at H
                          exact absurd H (by simp)
                      · rw [if_neg c14] at H
                        exact absurd H (by simp)
                    · rw [if_neg c13] at H
                      exact absurd H (by simp)
                  · rw [if_neg c12] at H
                    exact absurd H (by simp)
              case rest =>
                clear HC4
                try clear c1
                try clear p1
                try clear q1
                try clear hx1
                try clear c2
                try clear c2b0
                try clear p2
                try clear c3
                try clear c3b0
                try clear c5
                try clear c5b0
                try clear c5b1
                try clear c6
                try clear c6b0
                try clear c7
                try clear c7b0
                try clear c8
                try clear c8b0
                try clear c9
                try clear c9b0
                try clear q10
                try clear c11
                try clear c12
                try clear c12b0
                try clear c13
                try clear c13b0
                try clear c14
                try clear c14b0
                try clear p14
                try clear q14
                try clear hx14
                try clear c15
                try clear c15b0
                try clear q16
                try clear c17
                try clear c18
                try clear c18b0
                try clear c19
                try clear c19b0
                try clear hx141_0
                try clear hx142_0
                try clear hx143_0
                try clear hx144_0
                try clear hx145_0
                try clear hx146_0
                try clear p141
                try clear p142
                try clear p143
                try clear p144
                try clear p145
                try clear p146
                try clear p2
                try clear q141
                try clear q142
                try clear q143
                try clear q144
                try clear q145
                try clear q146
                obtain ⟨kq, x51_3, rfl, HA, HJ3, ⟨mc3, rfl⟩⟩ := hcut
                cases kq with
                | zero => exact absurd HA.out (by simp [weighlockref04_Order.j2])
                | succ kj3 =>
                  have H := HA.out
                  clear HA
                  simp only [weighlockref04_Order.j2] at H
                  by_cases c20 : x51_3 = true
                  · subst c20
                    have H1 : (some false) = some r := by rw [if_pos rfl] at H; exact H
                    clear H
                    have H := H1
                    clear H1
                    obtain rfl := Option.some.inj H
                    go_wp2
                    go_ret
                    exact ⟨by first | rfl | (simp; done) | (simp [*]; done), by repeat (first | exact Drawn0.refl _ | apply Drawn0.step)⟩
                  · replace c20 := Bool.eq_false_iff.mpr c20
                    subst c20
                    have H1 : (weighlockref04_Order.l2 kj3 l0 x8_1 x13_2 (l0.length : Int) x8_1 (l0.length : Int) x13_2 (l0.length : Int) 0) = some r := by rw [if_neg (show ¬ (false = true) by decide)] at H; exact H
                    clear H
                    have H := H1
                    clear H1
                    have H' := Aside0.mk H
                    clear H
                    go_wp2
                    go_loopg [54] kj3 (fun kq v54 w' => ∃ (x54_4 : Int), v54 = .int .i64 x54_4 ∧ Aside0 (weighlockref04_Order.l2 kq l0 x8_1 x13_2 (l0.length : Int) x8_1 (l0.length : Int) x13_2 (l0.length : Int) x54_4 = some r) ∧ Aside0 (kq ≤ kj3) ∧ Drawn0 w w')
                    case atStart => exact ⟨(0), (by first | rfl | (simp; done) | (simp [*]; done)), H', ⟨Nat.le_refl _⟩, by repeat (first | exact Drawn0.refl _ | apply Drawn0.step)⟩
                    case round =>
                      clear H'
                      try clear c1
                      try clear p1
                      try clear q1
                      try clear hx1
                      try clear c2
                      try clear c2b0
                      try clear p2
                      try clear c3
                      try clear c3b0
                      try clear c5
                      try clear c5b0
                      try clear c5b1
                      try clear c6
                      try clear c6b0
                      try clear c7
                      try clear c7b0
                      try clear c8
                      try clear c8b0
                      try clear c9
                      try clear c9b0
                      try clear q10
                      try clear c11
                      try clear c12
                      try clear c12b0
                      try clear c13
                      try clear c13b0
                      try clear c14
                      try clear c14b0
                      try clear p14
                      try clear q14
                      try clear hx14
                      try clear c15
                      try clear c15b0
                      try clear q16
                      try clear c17
                      try clear c18
                      try clear c18b0
                      try clear c19
                      try clear c19b0
                      try clear c20
                      try clear hx141_0
                      try clear hx142_0
                      try clear hx143_0
                      try clear hx144_0
                      try clear hx145_0
                      try clear hx146_0
                      try clear p1
                      try clear p14
                      try clear p141
                      try clear p142
                      try clear p143
                      try clear p144
                      try clear p145
                      try clear p146
                      try clear p2
                      try clear q1
                      try clear q10
                      try clear q14
                      try clear q141
                      try clear q142
                      try clear q143
                      try clear q144
                      try clear q145
                      try clear q146
                      try clear q16
                      obtain ⟨x54_4, rfl, HA, HK4, ⟨m4, rfl⟩⟩ := hrel
                      cases gk with
                      | zero => exact absurd HA.out (by simp [weighlockref04_Order.l2])
                      | succ k4 =>
                        have H := HA.out
                        clear HA
                        simp only [weighlockref04_Order.l2] at H
                        by_cases c21 : x54_4 < (l0.length : Int)
                        · rw [if_pos c21] at H
                          have c21b0 : decide (x54_4 < (l0.length : Int)) = true := decide_eq_true c21
                          clear c21
                          by_cases c22 : 0 ≤ x8_1
                          · rw [if_pos c22] at H
                            have c22b0 : decide (0 ≤ x8_1) = true := decide_eq_true c22
                            clear c22
                            by_cases c23 : x8_1 < (l0.length : Int)
                            · rw [if_pos c23] at H
                              have c23b0 : decide (x8_1 < (l0.length : Int)) = true := decide_eq_true c23
                              clear c23
                              by_cases c24 : 0 ≤ x13_2
                              · rw [if_pos c24] at H
                                have c24b0 : decide (0 ≤ x13_2) = true := decide_eq_true c24
                                clear c24
                                by_cases c25 : x13_2 < ((rd_L1 l0 x8_1).length : Int)
                                · rw [if_pos c25] at H
                                  have c25b0 : decide (x13_2 < ((rd_L1 l0 x8_1).length : Int)) = true := decide_eq_true c25
                                  clear c25
                                  obtain ⟨bq26, hbq26⟩ : ∃ b_ : Bool, b_ = (rdOf false (rd_L1 l0 x8_1) x13_2) := ⟨_, rfl⟩
                                  replace H : (if bq26 = true then (if x13_2 < (l0.length : Int) then (if 0 ≤ x54_4 then (if x54_4 < ((rd_L1 l0 x13_2).length : Int) then (if rdOf false (rd_L1 l0 x13_2) x54_4 = true then (if x54_4 < ((rd_L1 l0 x8_1).length : Int) then (if (rdOf false (rd_L1 l0 x8_1) x54_4 = true) then (weighlockref04_Order.l2 k4 l0 x8_1 x13_2 (l0.length : Int) x8_1 (l0.length : Int) x13_2 (l0.length : Int) (wrap64 (x54_4 + 1))) else (some false)) else (none)) else (weighlockref04_Order.l2 k4 l0 x8_1 x13_2 (l0.length : Int) x8_1 (l0.length : Int) x13_2 (l0.length : Int) (wrap64 (x54_4 + 1)))) else (none)) else (none)) else (none)) else (weighlockref04_Order.l2 k4 l0 x8_1 x13_2 (l0.length : Int) x8_1 (l0.length : Int) x13_2 (l0.length : Int) (wrap64 (x54_4 + 1)))) = some r := by rw [← hbq26] at H; exact H
                                  have Nbq26 := Aside0.mk hbq26
                                  clear hbq26
                                  by_cases c27 : bq26 = true
                                  · subst c27
                                    have H1 : (if x13_2 < (l0.length : Int) then (if 0 ≤ x54_4 then (if x54_4 < ((rd_L1 l0 x13_2).length : Int) then (if rdOf false (rd_L1 l0 x13_2) x54_4 = true then (if x54_4 < ((rd_L1 l0 x8_1).length : Int) then (if (rdOf false (rd_L1 l0 x8_1) x54_4 = true) then (weighlockref04_Order.l2 k4 l0 x8_1 x13_2 (l0.length : Int) x8_1 (l0.length : Int) x13_2 (l0.length : Int) (wrap64 (x54_4 + 1))) else (some false)) else (none)) else (weighlockref04_Order.l2 k4 l0 x8_1 x13_2 (l0.length : Int) x8_1 (l0.length : Int) x13_2 (l0.length : Int) (wrap64 (x54_4 + 1)))) else (none)) else (none)) else (none)) = some r := by rw [if_pos rfl] at H; exact H
                                    clear H
                                    have H := H1
                                    clear H1
                                    by_cases c28 : x13_2 < (l0.length : Int)
                                    · rw [if_pos c28] at H
                                      have c28b0 : decide (x13_2 < (l0.length : Int)) = true := decide_eq_true c28
                                      clear c28
                                      by_cases c29 : 0 ≤ x54_4
                                      · rw [if_pos c29] at H
                                        have c29b0 : decide (0 ≤ x54_4) = true := decide_eq_true c29
                                        clear c29
                                        by_cases c30 : x54_4 < ((rd_L1 l0 x13_2).length : Int)
                                        · rw [if_pos c30] at H
                                          have c30b0 : decide (x54_4 < ((rd_L1 l0 x13_2).length : Int)) = true := decide_eq_true c30
                                          clear c30
                                          obtain ⟨bq31, hbq31⟩ : ∃ b_ : Bool, b_ = (rdOf false (rd_L1 l0 x13_2) x54_4) := ⟨_, rfl⟩
                                          replace H : (if bq31 = true then (if x54_4 < ((rd_L1 l0 x8_1).length : Int) then (if (rdOf false (rd_L1 l0 x8_1) x54_4 = true) then (weighlockref04_Order.l2 k4 l0 x8_1 x13_2 (l0.length : Int) x8_1 (l0.length : Int) x13_2 (l0.length : Int) (wrap64 (x54_4 + 1))) else (some false)) else (none)) else (weighlockref04_Order.l2 k4 l0 x8_1 x13_2 (l0.length : Int) x8_1 (l0.length : Int) x13_2 (l0.length : Int) (wrap64 (x54_4 + 1)))) = some r := by rw [← hbq31] at H; exact H
                                          have Nbq31 := Aside0.mk hbq31
                                          clear hbq31
                                          by_cases c32 : bq31 = true
                                          · subst c32
                                            have H1 : (if x54_4 < ((rd_L1 l0 x8_1).length : Int) then (if (rdOf false (rd_L1 l0 x8_1) x54_4 = true) then (weighlockref04_Order.l2 k4 l0 x8_1 x13_2 (l0.length : Int) x8_1 (l0.length : Int) x13_2 (l0.length : Int) (wrap64 (x54_4 + 1))) else (some false)) else (none)) = some r := by rw [if_pos rfl] at H; exact H
                                            clear H
                                            have H := H1
                                            clear H1
                                            by_cases c33 : x54_4 < ((rd_L1 l0 x8_1).length : Int)
                                            · rw [if_pos c33] at H
                                              have c33b0 : decide (x54_4 < ((rd_L1 l0 x8_1).length : Int)) = true := decide_eq_true c33
                                              clear c33
                                              obtain ⟨bq34, hbq34⟩ : ∃ b_ : Bool, b_ = (rdOf false (rd_L1 l0 x8_1) x54_4) := ⟨_, rfl⟩
                                              replace H : (if (bq34 = true) then (weighlockref04_Order.l2 k4 l0 x8_1 x13_2 (l0.length : Int) x8_1 (l0.length : Int) x13_2 (l0.length : Int) (wrap64 (x54_4 + 1))) else (some false)) = some r := by rw [← hbq34] at H; exact H
                                              have Nbq34 := Aside0.mk hbq34
                                              clear hbq34
                                              by_cases c35 : (bq34 = true)
                                              · subst c35
                                                have H1 : (weighlockref04_Order.l2 k4 l0 x8_1 x13_2 (l0.length : Int) x8_1 (l0.length : Int) x13_2 (l0.length : Int) (wrap64 (x54_4 + 1))) = some r := by rw [if_pos rfl] at H; exact H
                                                clear H
                                                have H := H1
                                                clear H1
                                                have H' := Aside0.mk H
                                                clear H
                                                have p147 : 0 ≤ (x8_1 : Int) := of_decide_eq_true (by first | (with_reducible assumption) | assumption)
                                                have q147 : x8_1 < (l0.length : Int) := of_decide_eq_true (by first | (with_reducible assumption) | assumption)
                                                obtain ⟨ad147, A147_0, c147_0, e147, hx147_0, hl147_0, hi147_0⟩ := at_L1 HR0.out x8_1 p147 q147
                                                cases e147
                                                have HR147_0 := Aside0.mk hi147_0
                                                have HC147_0 := Aside0.mk hl147_0
                                                clear hi147_0 hl147_0
                                                replace p147 := eq_true p147
                                                replace q147 := eq_true q147
                                                have p148 : 0 ≤ (x13_2 : Int) := of_decide_eq_true (by first | (with_reducible assumption) | assumption)
                                                have q148 : x13_2 < ((rd_L1 l0 x8_1).length : Int) := of_decide_eq_true (by first | (with_reducible assumption) | assumption)
                                                obtain ⟨ad148, e148, hx148_0⟩ := Kd.at_bool HR147_0.out x13_2 p148 q148
                                                (try rw [← Nbq26.out] at hx148_0)
                                                (try rw [← Nbq31.out] at hx148_0)
                                                (try rw [← Nbq34.out] at hx148_0)
                                                cases e148
                                                replace p148 := eq_true p148
                                                replace q148 := eq_true q148
                                                have p149 : 0 ≤ (x13_2 : Int) := of_decide_eq_true (by first | (with_reducible assumption) | assumption)
                                                have q149 : x13_2 < (l0.length : Int) := of_decide_eq_true (by first | (with_reducible assumption) | assumption)
                                                obtain ⟨ad149, A149_0, c149_0, e149, hx149_0, hl149_0, hi149_0⟩ := at_L1 HR0.out x13_2 p149 q149
                                                obtain rfl : ad147 = ad149 := (by injection e149)
                                                have HR149_0 := Aside0.mk hi149_0
                                                have HC149_0 := Aside0.mk hl149_0
                                                clear hi149_0 hl149_0
                                                replace p149 := eq_true p149
                                                replace q149 := eq_true q149
                                                have p150 : 0 ≤ (x54_4 : Int) := of_decide_eq_true (by first | (with_reducible assumption) | assumption)
                                                have q150 : x54_4 < ((rd_L1 l0 x13_2).length : Int) := of_decide_eq_true (by first | (with_reducible assumption) | assumption)
                                                obtain ⟨ad150, e150, hx150_0⟩ := Kd.at_bool HR149_0.out x54_4 p150 q150
                                                (try rw [← Nbq26.out] at hx150_0)
                                                (try rw [← Nbq31.out] at hx150_0)
                                                (try rw [← Nbq34.out] at hx150_0)
                                                cases e150
                                                replace p150 := eq_true p150
                                                replace q150 := eq_true q150
                                                have p151 : 0 ≤ (x8_1 : Int) := of_decide_eq_true (by first | (with_reducible assumption) | assumption)
                                                have q151 : x8_1 < (l0.length : Int) := of_decide_eq_true (by first | (with_reducible assumption) | assumption)
                                                obtain ⟨ad151, A151_0, c151_0, e151, hx151_0, hl151_0, hi151_0⟩ := at_L1 HR0.out x8_1 p151 q151
                                                obtain rfl : ad147 = ad151 := (by injection e151)
                                                have HR151_0 := Aside0.mk hi151_0
                                                have HC151_0 := Aside0.mk hl151_0
                                                clear hi151_0 hl151_0
                                                replace p151 := eq_true p151
                                                replace q151 := eq_true q151
                                                have ea_ := Option.some.inj (hx147_0.symm.trans hx151_0)
                                                injection ea_ with ea_ en_ ec_
                                                subst ea_
                                                subst ec_
                                                clear en_
                                                have p152 : 0 ≤ (x54_4 : Int) := of_decide_eq_true (by first | (with_reducible assumption) | assumption)
                                                have q152 : x54_4 < ((rd_L1 l0 x8_1).length : Int) := of_decide_eq_true (by first | (with_reducible assumption) | assumption)
                                                obtain ⟨ad152, e152, hx152_0⟩ := Kd.at_bool HR151_0.out x54_4 p152 q152
                                                (try rw [← Nbq26.out] at hx152_0)
                                                (try rw [← Nbq31.out] at hx152_0)
                                                (try rw [← Nbq34.out] at hx152_0)
                                                cases e152
                                                replace p152 := eq_true p152
                                                replace q152 := eq_true q152
                                                go_wp2
                                                go_roundg k4
                                                case measure => have := HK1.out; have := HK2.out; have := HJ3.out; have := HK4.out; omega
                                                case rel => exact ⟨(wrap64 (x54_4 + 1)), (by first | rfl | (simp; done) | (simp [*]; done)), H', ⟨by have := HK1.out; have := HK2.out; have := HJ3.out; have := HK4.out; omega⟩, by repeat (first | exact Drawn0.refl _ | apply Drawn0.step)⟩
                                              · replace c35 := Bool.eq_false_iff.mpr c35
                                                subst c35
                                                have H1 : (some false) = some r := by rw [if_neg (show ¬ (false = true) by decide)] at H; exact H
                                                clear H
                                                have H := H1
                                                clear H1
                                                obtain rfl := Option.some.inj H
                                                have p147 : 0 ≤ (x8_1 : Int) := of_decide_eq_true (by first | (with_reducible assumption) | assumption)
                                                have q147 : x8_1 < (l0.length : Int) := of_decide_eq_true (by first | (with_reducible assumption) | assumption)
                                                obtain ⟨ad147, A147_0, c147_0, e147, hx147_0, hl147_0, hi147_0⟩ := at_L1 HR0.out x8_1 p147 q147
                                                cases e147
                                                have HR147_0 := Aside0.mk hi147_0
                                                have HC147_0 := Aside0.mk hl147_0
                                                clear hi147_0 hl147_0
                                                replace p147 := eq_true p147
                                                replace q147 := eq_true q147
                                                have p148 : 0 ≤ (x13_2 : Int) := of_decide_eq_true (by first | (with_reducible assumption) | assumption)
                                                have q148 : x13_2 < ((rd_L1 l0 x8_1).length : Int) := of_decide_eq_true (by first | (with_reducible assumption) | assumption)
                                                obtain ⟨ad148, e148, hx148_0⟩ := Kd.at_bool HR147_0.out x13_2 p148 q148
                                                (try rw [← Nbq26.out] at hx148_0)
                                                (try rw [← Nbq31.out] at hx148_0)
                                                (try rw [← Nbq34.out] at hx148_0)
                                                cases e148
                                                replace p148 := eq_true p148
                                                replace q148 := eq_true q148
                                                have p149 : 0 ≤ (x13_2 : Int) := of_decide_eq_true (by first | (with_reducible assumption) | assumption)
                                                have q149 : x13_2 < (l0.length : Int) := of_decide_eq_true (by first | (with_reducible assumption) | assumption)
                                                obtain ⟨ad149, A149_0, c149_0, e149, hx149_0, hl149_0, hi149_0⟩ := at_L1 HR0.out x13_2 p149 q149
                                                obtain rfl : ad147 = ad149 := (by injection e149)
                                                have HR149_0 := Aside0.mk hi149_0
                                                have HC149_0 := Aside0.mk hl149_0
                                                clear hi149_0 hl149_0
                                                replace p149 := eq_true p149
                                                replace q149 := eq_true q149
                                                have p150 : 0 ≤ (x54_4 : Int) := of_decide_eq_true (by first | (with_reducible assumption) | assumption)
                                                have q150 : x54_4 < ((rd_L1 l0 x13_2).length : Int) := of_decide_eq_true (by first | (with_reducible assumption) | assumption)
                                                obtain ⟨ad150, e150, hx150_0⟩ := Kd.at_bool HR149_0.out x54_4 p150 q150
                                                (try rw [← Nbq26.out] at hx150_0)
                                                (try rw [← Nbq31.out] at hx150_0)
                                                (try rw [← Nbq34.out] at hx150_0)
                                                cases e150
                                                replace p150 := eq_true p150
                                                replace q150 := eq_true q150
                                                have p151 : 0 ≤ (x8_1 : Int) := of_decide_eq_true (by first | (with_reducible assumption) | assumption)
                                                have q151 : x8_1 < (l0.length : Int) := of_decide_eq_true (by first | (with_reducible assumption) | assumption)
                                                obtain ⟨ad151, A151_0, c151_0, e151, hx151_0, hl151_0, hi151_0⟩ := at_L1 HR0.out x8_1 p151 q151
                                                obtain rfl : ad147 = ad151 := (by injection e151)
                                                have HR151_0 := Aside0.mk hi151_0
                                                have HC151_0 := Aside0.mk hl151_0
                                                clear hi151_0 hl151_0
                                                replace p151 := eq_true p151
                                                replace q151 := eq_true q151
                                                have ea_ := Option.some.inj (hx147_0.symm.trans hx151_0)
                                                injection ea_ with ea_ en_ ec_
                                                subst ea_
                                                subst ec_
                                                clear en_
                                                have p152 : 0 ≤ (x54_4 : Int) := of_decide_eq_true (by first | (with_reducible assumption) | assumption)
                                                have q152 : x54_4 < ((rd_L1 l0 x8_1).length : Int) := of_decide_eq_true (by first | (with_reducible assumption) | assumption)
                                                obtain ⟨ad152, e152, hx152_0⟩ := Kd.at_bool HR151_0.out x54_4 p152 q152
                                                (try rw [← Nbq26.out] at hx152_0)
                                                (try rw [← Nbq31.out] at hx152_0)
                                                (try rw [← Nbq34.out] at hx152_0)
                                                cases e152
                                                replace p152 := eq_true p152
                                                replace q152 := eq_true q152
                                                go_wp2
                                                go_ret
                                                exact ⟨by first | rfl | (simp; done) | (simp [*]; done), by repeat (first | exact Drawn0.refl _ | apply Drawn0.step)⟩
                                            · rw [if_neg c33] at H
                                              exact absurd H (by simp)
                                          · replace c32 := Bool.eq_false_iff.mpr c32
                                            subst c32
                                            have H1 : (weighlockref04_Order.l2 k4 l0 x8_1 x13_2 (l0.length : Int) x8_1 (l0.length : Int) x13_2 (l0.length : Int) (wrap64 (x54_4 + 1))) = some r := by rw [if_neg (show ¬ (false = true) by decide)] at H; exact H
                                            clear H
                                            have H := H1
                                            clear H1
                                            have H' := Aside0.mk H
                                            clear H
                                            have p147 : 0 ≤ (x8_1 : Int) := of_decide_eq_true (by first | (with_reducible assumption) | assumption)
                                            have q147 : x8_1 < (l0.length : Int) := of_decide_eq_true (by first | (with_reducible assumption) | assumption)
                                            obtain ⟨ad147, A147_0, c147_0, e147, hx147_0, hl147_0, hi147_0⟩ := at_L1 HR0.out x8_1 p147 q147
                                            cases e147
                                            have HR147_0 := Aside0.mk hi147_0
                                            have HC147_0 := Aside0.mk hl147_0
                                            clear hi147_0 hl147_0
                                            replace p147 := eq_true p147
                                            replace q147 := eq_true q147
                                            have p148 : 0 ≤ (x13_2 : Int) := of_decide_eq_true (by first | (with_reducible assumption) | assumption)
                                            have q148 : x13_2 < ((rd_L1 l0 x8_1).length : Int) := of_decide_eq_true (by first | (with_reducible assumption) | assumption)
                                            obtain ⟨ad148, e148, hx148_0⟩ := Kd.at_bool HR147_0.out x13_2 p148 q148
                                            (try rw [← Nbq26.out] at hx148_0)
                                            (try rw [← Nbq31.out] at hx148_0)
                                            cases e148
                                            replace p148 := eq_true p148
                                            replace q148 := eq_true q148
                                            have p149 : 0 ≤ (x13_2 : Int) := of_decide_eq_true (by first | (with_reducible assumption) | assumption)
                                            have q149 : x13_2 < (l0.length : Int) := of_decide_eq_true (by first | (with_reducible assumption) | assumption)
                                            obtain ⟨ad149, A149_0, c149_0, e149, hx149_0, hl149_0, hi149_0⟩ := at_L1 HR0.out x13_2 p149 q149
                                            obtain rfl : ad147 = ad149 := (by injection e149)
                                            have HR149_0 := Aside0.mk hi149_0
                                            have HC149_0 := Aside0.mk hl149_0
                                            clear hi149_0 hl149_0
                                            replace p149 := eq_true p149
                                            replace q149 := eq_true q149
                                            have p150 : 0 ≤ (x54_4 : Int) := of_decide_eq_true (by first | (with_reducible assumption) | assumption)
                                            have q150 : x54_4 < ((rd_L1 l0 x13_2).length : Int) := of_decide_eq_true (by first | (with_reducible assumption) | assumption)
                                            obtain ⟨ad150, e150, hx150_0⟩ := Kd.at_bool HR149_0.out x54_4 p150 q150
                                            (try rw [← Nbq26.out] at hx150_0)
                                            (try rw [← Nbq31.out] at hx150_0)
                                            cases e150
                                            replace p150 := eq_true p150
                                            replace q150 := eq_true q150
                                            go_wp2
                                            go_roundg k4
                                            case measure => have := HK1.out; have := HK2.out; have := HJ3.out; have := HK4.out; omega
                                            case rel => exact ⟨(wrap64 (x54_4 + 1)), (by first | rfl | (simp; done) | (simp [*]; done)), H', ⟨by have := HK1.out; have := HK2.out; have := HJ3.out; have := HK4.out; omega⟩, by repeat (first | exact Drawn0.refl _ | apply Drawn0.step)⟩
                                        · rw [if_neg c30] at H
                                          exact absurd H (by simp)
                                      · rw [if_neg c29] at H
                                        exact absurd H (by simp)
                                    · rw [if_neg c28] at H
                                      exact absurd H (by simp)
                                  · replace c27 := Bool.eq_false_iff.mpr c27
                                    subst c27
                                    have H1 : (weighlockref04_Order.l2 k4 l0 x8_1 x13_2 (l0.length : Int) x8_1 (l0.length : Int) x13_2 (l0.length : Int) (wrap64 (x54_4 + 1))) = some r := by rw [if_neg (show ¬ (false = true) by decide)] at H; exact H
                                    clear H
                                    have H := H1
                                    clear H1
                                    have H' := Aside0.mk H
                                    clear H
                                    have p147 : 0 ≤ (x8_1 : Int) := of_decide_eq_true (by first | (with_reducible assumption) | assumption)
                                    have q147 : x8_1 < (l0.length : Int) := of_decide_eq_true (by first | (with_reducible assumption) | assumption)
                                    obtain ⟨ad147, A147_0, c147_0, e147, hx147_0, hl147_0, hi147_0⟩ := at_L1 HR0.out x8_1 p147 q147
                                    cases e147
                                    have HR147_0 := Aside0.mk hi147_0
                                    have HC147_0 := Aside0.mk hl147_0
                                    clear hi147_0 hl147_0
                                    replace p147 := eq_true p147
                                    replace q147 := eq_true q147
                                    have p148 : 0 ≤ (x13_2 : Int) := of_decide_eq_true (by first | (with_reducible assumption) | assumption)
                                    have q148 : x13_2 < ((rd_L1 l0 x8_1).length : Int) := of_decide_eq_true (by first | (with_reducible assumption) | assumption)
                                    obtain ⟨ad148, e148, hx148_0⟩ := Kd.at_bool HR147_0.out x13_2 p148 q148
                                    (try rw [← Nbq26.out] at hx148_0)
                                    cases e148
                                    replace p148 := eq_true p148
                                    replace q148 := eq_true q148
                                    go_wp2
                                    go_roundg k4
                                    case measure => have := HK1.out; have := HK2.out; have := HJ3.out; have := HK4.out; omega
                                    case rel => exact ⟨(wrap64 (x54_4 + 1)), (by first | rfl | (simp; done) | (simp [*]; done)), H', ⟨by have := HK1.out; have := HK2.out; have := HJ3.out; have := HK4.out; omega⟩, by repeat (first | exact Drawn0.refl _ | apply Drawn0.step)⟩
                                · rw [if_neg c25] at H
                                  exact absurd H (by simp)
                              · rw [if_neg c24] at H
                                exact absurd H (by simp)
                            · rw [if_neg c23] at H
                              exact absurd H (by simp)
                          · rw [if_neg c22] at H
                            exact absurd H (by simp)
                        · rw [if_neg c21] at H
                          have c21b0 : decide (x54_4 < (l0.length : Int)) = false := decide_eq_false c21
                          clear c21
                          have H' := Aside0.mk H
                          clear H
                          go_wp2
                          go_roundg k4
                          case measure => have := HK1.out; have := HK2.out; have := HJ3.out; have := HK4.out; omega
                          case rel => exact ⟨(wrap64 (x13_2 + 1)), (by first | rfl | (simp; done) | (simp [*]; done)), H', ⟨by have := HK1.out; have := HK2.out; have := HJ3.out; have := HK4.out; omega⟩, by repeat (first | exact Drawn0.refl _ | apply Drawn0.step)⟩
            · rw [if_neg c3] at H
              have c3b0 : decide (x13_2 < (l0.length : Int)) = false := decide_eq_false c3
              clear c3
              have H' := Aside0.mk H
              clear H
              go_wp2
              go_roundg k2
              case measure => have := HK1.out; have := HK2.out; omega
              case rel => exact ⟨(wrap64 (x8_1 + 1)), (by first | rfl | (simp; done) | (simp [*]; done)), H', ⟨by have := HK1.out; have := HK2.out; omega⟩, by repeat (first | exact Drawn0.refl _ | apply Drawn0.step)⟩
      · rw [if_neg c2] at H
        have c2b0 : decide (x8_1 < (l0.length : Int)) = false := decide_eq_false c2
        clear c2
        obtain rfl := Option.some.inj H
        go_wp2
        go_ret
        exact ⟨by first | rfl | (simp; done) | (simp [*]; done), by repeat (first | exact Drawn0.refl _ | apply Drawn0.step)⟩

end Go.Proofs.Yteopponjfkeagaa.PLattice
