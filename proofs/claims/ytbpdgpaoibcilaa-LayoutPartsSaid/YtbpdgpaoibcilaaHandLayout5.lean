import Derived.Test.YtbpdgpaoibcilaaHandLayout4
namespace Go.Proofs.Ytbpdgpaoibcilaa.HandLayout
open Go.RowKit Go.Proofs.YtbpdgpaoibcilaaW.PrintWords Go.Proofs.YtbpdgpaoibcilaaW.PrintLast Go.Proofs.YtbpdgpaoibcilaaW.PrintMore Go.Proofs.Ytbpdgpaoibcilaa.PLayout
set_option linter.unusedVariables false

set_option maxHeartbeats 4000000 in
theorem parts_core (A : Option Addr) (c : Nat) (l : List Int) (w : World) (hr : Kd.C (Kd.int .i64) w A l.length l) (hc : l.length ≤ c) (hm : l.length ≤ 17592186044416) :
    Calls Try.prog 7 #[.slice A l.length c] w fun e w' => e = .returned (.bool true) ∧ Below w.heap.size w w' := by
  have HR := Aside0.mk hr
  have HC := Aside0.mk hc
  clear hr hc
  by_cases hg : Good l
  case neg =>
    have hgb : Aside0 (goodB l = false) := ⟨good_false hg⟩
    clear hg
    go_enter Try.func7, Try.ntmps7
    go_wp2_with fail
    refine (may_calls _ _ l false _ HR.out HC.out hgb.out).mono ?_
    rintro e w2 ⟨rfl, ⟨⟨n2, rfl⟩⟩⟩
    go_wp2_with fail
    refine (pair_true _).mono ?_
    rintro e w6 ⟨rfl, hb⟩
    have HB6 := Aside0.mk (below_step (pw_below_drewN (Below.refl _ _) _) hb)
    clear hb
    go_wp2_with fail
    go_ret
    exact ⟨rfl, HB6.out⟩
  have G := Aside0.mk hg
  have hgb : Aside0 (goodB l = true) := ⟨good_true hg⟩
  have h6 := hg.2.1
  have hbr := bg_range l l.length h6 hg.2.2
  have hbr1 := hbr.1
  have hbr2 := hbr.2
  clear hg hbr
  obtain ⟨M, hM⟩ := Int.eq_ofNat_of_zero_le (show 0 ≤ bg l l.length by omega)
  have HM := Aside0.mk hM
  have hM2 : M ≤ 7000 := by omega
  clear hM hbr1 hbr2
  go_enter Try.func7, Try.ntmps7
  go_wp2_with fail
  refine (may_calls _ _ l true _ HR.out HC.out hgb.out).mono ?_
  rintro e w0 ⟨rfl, ⟨⟨n0, rfl⟩⟩⟩
  go_wp2_with fail
  refine (new_good _ _ l _ (Kd.C_drewN HR.out _) HC.out G.out).mono ?_
  rintro e w1 ⟨rfl, hL, hb⟩
  have HL := Aside0.mk hL
  have HB := Aside0.mk (below_step (pw_below_drewN (Below.refl _ _) n0) hb)
  clear hL hb
  go_wp2_with fail
  refine (sec' _ l M _ HL.out h6 HM.out).mono ?_
  rintro e w4 ⟨rfl, ⟨⟨n4, rfl⟩⟩⟩
  go_wp2_with fail
  go_loopw [22] (fun v wr => ∃ i : Nat, v = .int .i64 i ∧ i ≤ M ∧ Aside0 (IsLay wr (w.drewN n0).heap.size l) ∧ Aside0 (Below w.heap.size w wr)) (fun v _ => 8000 - (intOf v).toNat)
  case atStart => exact ⟨0, rfl, by omega, ⟨HL.out⟩, ⟨pw_below_drewN HB.out _⟩⟩
  case round =>
    obtain ⟨i, rfl, hi, HLr, HBr⟩ := hrel
    by_cases hlt : i < M
    · obtain ⟨j, hj, h0, h1⟩ := label_of l i (by omega) l.length (by rw [HM.out]; omega)
      have H0 := Aside0.mk h0
      have H1 := Aside0.mk h1
      clear h0 h1
      go_wp2_with fail
      refine (own_good _ l j i _ HLr.out G.out hj H0.out H1.out).mono ?_
      rintro e w5 ⟨rfl, ⟨⟨n5, rfl⟩⟩⟩
      go_wp2_with fail
      go_loopw [35] (fun v wr2 => ∃ k : Nat, v = .int .i64 k ∧ k ≤ l.length ∧ Aside0 (IsLay wr2 (w.drewN n0).heap.size l) ∧ Aside0 (Below w.heap.size w wr2)) (fun v _ => 10 - (intOf v).toNat)
      case atStart => exact ⟨0, rfl, by omega, ⟨HLr.out⟩, ⟨pw_below_drewN HBr.out _⟩⟩
      case round =>
        clear HLr HBr
        obtain ⟨k, rfl, hk, HLq, HBq⟩ := hrel
        by_cases hkl : k < l.length
        · obtain ⟨m, hm⟩ := Int.eq_ofNat_of_zero_le (show 0 ≤ bg l k by have := (bg_range l k (by omega) (fun i hi => G.out.2.2 i (by omega))).1; omega)
          obtain ⟨q, hq⟩ := Int.eq_ofNat_of_zero_le (show 0 ≤ 2 + 16 * rd l k by have := G.out.2.2 k hkl; omega)
          have hcase : (k < j ∧ m + q ≤ i ∧ m ≤ i) ∨ (k = j ∧ m ≤ i ∧ i < m + q) ∨ (j < k ∧ i < m) := by
            have h0 := H0.out
            have h1 := H1.out
            have e1 : bg l (k + 1) = bg l k + 2 + 16 * rd l k := rfl
            rcases Nat.lt_trichotomy k j with h | h | h
            · have := bg_mono l l.length G.out.2.2 (k + 1) (j - (k + 1)) (by omega)
              rw [show k + 1 + (j - (k + 1)) = j by omega] at this
              exact .inl ⟨h, by omega, by omega⟩
            · subst h
              exact .inr (.inl ⟨rfl, by omega, by omega⟩)
            · have := bg_mono l l.length G.out.2.2 (j + 1) (k - (j + 1)) (by omega)
              rw [show j + 1 + (k - (j + 1)) = k by omega] at this
              exact .inr (.inr ⟨h, by omega⟩)
          have hmb : m ≤ 7000 ∧ q ≤ 2000 := by
            have := (bg_range l k (by omega) (fun i hi => G.out.2.2 i (by omega))).2
            have := G.out.2.2 k hkl
            omega
          obtain ⟨hmb1, hmb2⟩ := hmb
          have HM2 := Aside0.mk hm
          have HQ2 := Aside0.mk hq
          clear hm hq
          go_wp2_with fail
          refine (ext' _ l k m q _ HLq.out G.out (by omega) (by omega) (by rw [Int.toNat_natCast]; exact HM2.out) HQ2.out).mono ?_
          rintro e w6 ⟨rfl, hb⟩
          have HL6 := Aside0.mk ((HLq.out.below hb).below (below_alloc (Below.refl _ _) (.cells #[.int .i64 m, .int .i64 q] 43)))
          have HB6 := Aside0.mk (below_alloc (below_step HBq.out hb) (.cells #[.int .i64 m, .int .i64 q] 43))
          clear hb
          rcases hcase with ⟨c1, c2, c3⟩ | ⟨rfl, c2, c3⟩ | ⟨c1, c2⟩
          · have hkj : (k == j) = false := by rw [beq_eq_false_iff_ne]; omega
            have hkj2 : ((k : Int) == (j : Int)) = false := by rw [beq_eq_false_iff_ne]; omega
            have hd1 : decide ((i : Int) < (m : Int) + (q : Int)) = false := decide_eq_false (by omega)
            go_wp2_with fail
            go_roundw
            case rel => exact ⟨k + 1, rfl, by omega, HL6, HB6⟩
            case measure => simp [intOf]; omega
          · have hd1 : decide ((i : Int) < (m : Int) + (q : Int)) = true := decide_eq_true (by omega)
            go_wp2_with fail
            go_roundw
            case rel => exact ⟨k + 1, rfl, by omega, HL6, HB6⟩
            case measure => simp [intOf]; omega
          · have hkj : (k == j) = false := by rw [beq_eq_false_iff_ne]; omega
            have hkj2 : ((k : Int) == (j : Int)) = false := by rw [beq_eq_false_iff_ne]; omega
            go_wp2_with fail
            go_roundw
            case rel => exact ⟨k + 1, rfl, by omega, HL6, HB6⟩
            case measure => simp [intOf]; omega
        · obtain rfl : k = l.length := by omega
          go_wp2_with fail
          go_roundw
          case rel => exact ⟨i + 1, rfl, by omega, HLq, HBq⟩
          case measure => simp [intOf]; omega
    · obtain rfl : i = M := by omega
      go_wp2_with fail
      refine (pair_true _).mono ?_
      rintro e w6 ⟨rfl, hb⟩
      have HB6 := Aside0.mk (below_step HBr.out hb)
      clear hb
      go_wp2_with fail
      go_ret
      exact ⟨rfl, HB6.out⟩
end Go.Proofs.Ytbpdgpaoibcilaa.HandLayout
