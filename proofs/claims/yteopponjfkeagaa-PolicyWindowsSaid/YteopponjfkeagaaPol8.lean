import Derived.Test.YteopponjfkeagaaPolD
namespace Go.Proofs.Yteopponjfkeagaa.Lat
open Go.RowKit Go.Maps Go.Proofs.YteopponjfkeagaaW.PrintWords Go.Proofs.YteopponjfkeagaaW.PrintLast Go.Proofs.YteopponjfkeagaaW.PrintMore Go.Proofs.Yteopponjfkeagaa.PPol
attribute [local go_sem] max2_int min2_int max_two min_two
set_option linter.unusedVariables false
set_option linter.unusedSimpArgs false

theorem next_mod {i win : Int} (h0 : 0 ≤ i) (hw : 1 ≤ win) : nextAt win (i % win) = (i + 1) % win ∧ (i % win + 1 = win ↔ (i + 1) % win = 0) := by
  have h1 := Int.emod_nonneg i (by omega : win ≠ 0)
  have h2 := Int.emod_lt_of_pos i (by omega : 0 < win)
  have e : (i + 1) % win = (i % win + 1) % win := by rw [Int.add_emod, Int.add_emod (i % win)]; simp
  have h3 : (i + 1) % win = nextAt win (i % win) := by
    rw [e]
    unfold nextAt
    split
    · rename_i q
      rw [q, Int.emod_self]
    · rename_i q
      exact Int.emod_eq_of_lt (by omega) (by omega)
  refine ⟨h3.symm, ?_⟩
  rw [h3]
  unfold nextAt
  generalize i % win = r at *
  split
  · rename_i q
    exact ⟨fun _ => rfl, fun _ => q⟩
  · rename_i q
    exact ⟨fun x => absurd x q, fun x => by omega⟩
set_option maxHeartbeats 8000000 in
set_option maxRecDepth 8000 in
theorem pwin_core (bud win : Int) (A : Option Addr) (m c : Nat) (l : List Int) (hm : Aside0 (l.length = m)) (w : World) (hC : Kd.C (Kd.int .i64) w A m l) (hwf : ∀ x ∈ l, -9223372036854775808 ≤ x ∧ x ≤ 9223372036854775807) : Calls Try.prog 10 #[.int .i64 bud, .int .i64 win, .slice A m c] w fun e w' => e = .returned (.bool true) ∧ Below w.heap.size w w' := by
  have HC := Aside0.mk hC
  replace hwf := Aside0.mk hwf
  clear hC
  by_cases good : 1 ≤ bud ∧ bud ≤ 100 ∧ 1 ≤ win ∧ win ≤ 100 ∧ m ≤ 100
  case neg =>
    have five : bud < 1 ∨ (1 ≤ bud ∧ 100 < bud) ∨ (1 ≤ bud ∧ bud ≤ 100 ∧ win < 1) ∨ (1 ≤ bud ∧ bud ≤ 100 ∧ 1 ≤ win ∧ 100 < win) ∨ (1 ≤ bud ∧ bud ≤ 100 ∧ 1 ≤ win ∧ win ≤ 100 ∧ (100 : Int) < m) := by omega
    clear good
    rcases five with h1 | ⟨h1, h2⟩ | ⟨h1, h2, h3⟩ | ⟨h1, h2, h3, h4⟩ | ⟨h1, h2, h3, h4, h5⟩
    all_goals
      go_enter Try.func10, Try.ntmps10
      go_wp2_with fail
      refine (ptwo_calls _).mono ?_
      rintro e w1 ⟨rfl, hb⟩
      go_wp2_with fail
      go_ret
      exact ⟨rfl, hb⟩
  obtain ⟨b1, b2, n1, n2, hm1⟩ := good
  have hm2 : (m : Int) ≤ 100 := by omega
  have HC2 := Aside0.mk (two_C w)
  have HB : Aside0 (Below w.heap.size w (W2 w)) := Aside0.mk (below3 w (row2 true true) (row2 false true) (.cells #[sl2 w.heap.size, sl2 (w.heap.size + 1)] 37))
  go_enter Try.func10, Try.ntmps10
  go_wp2_with fail
  change Calls _ _ _ (W2 w) _
  generalize W2 w = W at *
  refine (New_calls' (n := 2) f2 ⟨rfl⟩ HC2.out).mono ?_
  rintro e w1 ⟨hnew, hb⟩
  obtain ⟨g, rfl, hlat⟩ := new2 hnew
  clear hnew HC2
  have HR := Aside0.mk (rule_C (blk_new w1 (.cells #[.int .i64 1, .int .i64 0, .int .i64 bud] 58)))
  have hal := below_alloc (Below.refl w1.heap.size w1) (.cells #[.int .i64 1, .int .i64 0, .int .i64 bud] 58)
  have HL := Aside0.mk (hlat.later hal)
  replace HB := Aside0.mk (below_step (below_step HB.out hb) hal)
  clear hb hlat hal
  go_wp2_with fail
  generalize w1.alloc (.cells #[.int .i64 1, .int .i64 0, .int .i64 bud] 58) = W1 at *
  refine (PolNew_calls [⟨1, 0, bud⟩] ⟨rfl⟩ (by decide) (lat_sized HL.out) (lat_flowing HL.out (by decide)) HR.out).mono ?_
  rintro e w2 ⟨hnew, hb⟩
  obtain ⟨pg, rfl, hpol⟩ := pol2 (pn ⟨b1, by omega⟩) hnew
  have HP := Aside0.mk hpol
  replace HB := Aside0.mk (below_step HB.out hb)
  clear hb hpol hnew HR HL
  go_wp2_with fail
  refine (Ledger_calls HP.out (win := win) ⟨n1, by omega⟩ (show (1 : Nat) ≤ 100 by decide)).mono ?_
  rintro e w3 ⟨gl, rfl, hled, hb⟩
  have hsz := HB.out.size
  have HO : Aside0 (One w2.heap.size w3 gl pg bud win 0 0) := ⟨hled⟩
  replace HB := Aside0.mk (below_step HB.out hb)
  clear hb hled HP
  obtain ⟨B, hB⟩ : ∃ B, w2.heap.size = B := ⟨_, rfl⟩
  rw [hB] at HO hsz
  clear hB
  have hw0 : (win == 0) = false := by
    rw [beq_eq_false_iff_ne]
    omega
  have hw3 : ¬ win = 0 := by omega
  go_wp2_with fail
  go_loopw [13, 59] (fun xn x wr => ∃ (nn : Int) (i : Nat) (y : Int), xn = .int .i64 nn ∧ x = .int .i64 (i : Int) ∧ i ≤ m ∧ 0 ≤ nn ∧ nn ≤ bud ∧ 0 ≤ y ∧ y ≤ bud ∧ ((i : Int) % win = 0 → y = 0) ∧ (¬ (i : Int) % win = 0 → y = nn) ∧ Aside0 (One B wr gl pg bud win ((i : Int) % win) y) ∧ Aside0 (Below w.heap.size w wr)) (fun _ x _ => m - (intOf x).toNat)
  case atStart => exact ⟨0, 0, 0, rfl, rfl, Nat.zero_le _, Int.le_refl 0, by omega, Int.le_refl 0, by omega, fun _ => rfl, fun _ => rfl, ⟨by rw [show ((0 : Nat) : Int) % win = 0 from Int.zero_emod win]; exact HO.out⟩, HB⟩
  case round =>
    clear HO HB
    obtain ⟨nn, i, y, rfl, rfl, hi, hn0, hn1, hy0, hy1, hyz, hyn, HO, HB⟩ := hrel
    by_cases hx : (i : Int) < m
    · obtain ⟨ad, rfl, hcell⟩ := Kd.at_int HC.out (i : Int) (by omega) hx
      replace hcell := (HB.out.cell (World.block_lt_of_cell? w _ hcell)).trans hcell
      rw [Int.toNat_natCast] at hcell
      have hk := hwf.out (rd l i) (rd_mem l i (by rw [hm.out]; omega))
      generalize rd l i = k at *
      have nm := next_mod (i := (i : Int)) (win := win) (by omega) n1
      have em0 := Int.emod_nonneg (i : Int) hw3
      have em1 := Int.emod_lt_of_pos (i : Int) (by omega : 0 < win)
      have ht : (i : Int).tmod win = (i : Int) % win := Int.tmod_eq_emod_of_nonneg (by omega)
      have hwr : IntKind.i64.wrap ((i : Int) % win) = (i : Int) % win := IntWalk.i64_in _ (by omega)
      generalize (i : Int) % win = q at *
      replace nm := Aside0.mk nm
      by_cases hq : q = 0
      · obtain rfl := hyz hq
        clear hyz hyn
        have hq2 : (q == 0) = true := by rw [hq]; rfl
        rcases (show k < 0 ∨ (0 ≤ k ∧ 200 < k) ∨ (0 ≤ k ∧ k ≤ 200) by omega) with g1 | ⟨g1, g2⟩ | ⟨g1, g2⟩
        · go_wp2_with fail
          go_loopw [13, 71] (fun xn x wr => ∃ (y : Int) (j : Nat), xn = .int .i64 y ∧ x = .int .i64 (j : Int) ∧ (j : Int) ≤ (0 : Int) ∧ 0 ≤ y ∧ y ≤ bud ∧ Aside0 (One B wr gl pg bud win q y) ∧ Aside0 (Below w.heap.size w wr)) (fun _ x _ => (0 : Int).toNat - (intOf x).toNat)
          case atStart => exact ⟨_, 0, rfl, rfl, by omega, by omega, by omega, HO, HB⟩
          case round =>
            clear HO HB hcell
            obtain ⟨y, j, rfl, rfl, hj, hy0, hy1, HO, HB⟩ := hrel
            by_cases hjx : (j : Int) < (0 : Int)
            · by_cases hfull : bud - y = 0
              · go_wp2_with fail
                refine (HO.out.full hfull).mono ?_
                rintro e v1 ⟨rfl, hb⟩
                replace HB := Aside0.mk (HB.out.trans (hb.mono (Nat.le_trans hsz HO.out.base)))
                replace HO := Aside0.mk (HO.out.later hb)
                clear hb
                go_wp2_with fail
                exact ⟨⟨y, j + 1, rfl, rfl, by omega, hy0, hy1, HO, HB⟩, by simp [intOf]; omega⟩
              · go_wp2_with fail
                refine (HO.out.spend (by omega) (by omega)).mono ?_
                rintro e v1 ⟨rfl, ho, hb⟩
                replace HB := Aside0.mk (HB.out.trans (hb.mono hsz))
                replace HO := Aside0.mk ho
                clear ho hb
                go_wp2_with fail
                exact ⟨⟨y + 1, j + 1, rfl, rfl, by omega, by omega, by omega, HO, HB⟩, by simp [intOf]; omega⟩
            · have hw5 : IntKind.i64.wrap (bud - y) = bud - y := IntWalk.i64_in _ (by omega)
              go_wp2_with fail
              refine (HO.out.left (by omega)).mono ?_
              rintro e v2 ⟨rfl, hb⟩
              replace HB := Aside0.mk (HB.out.trans (hb.mono (Nat.le_trans hsz HO.out.base)))
              replace HO := Aside0.mk (HO.out.later hb)
              clear hb
              go_wp2_with fail
              refine (HO.out.tick ⟨n1, by omega⟩ ⟨em0, em1⟩).mono ?_
              rintro e v3 ⟨rfl, ho, hb⟩
              replace HB := Aside0.mk (HB.out.trans (hb.mono hsz))
              rw [nm.out.1] at ho
              have HO2 := Aside0.mk ho
              clear ho hb HO
              go_wp2_with fail
              exact ⟨⟨y, i + 1, _, rfl, rfl, by omega, hy0, hy1, by split <;> omega, by split <;> omega, fun h0 => if_pos (nm.out.2.2 h0), fun h0 => if_neg (fun h1 => h0 (nm.out.2.1 h1)), HO2, HB⟩, by simp [intOf]; omega⟩
        · go_wp2_with fail
          go_loopw [13, 71] (fun xn x wr => ∃ (y : Int) (j : Nat), xn = .int .i64 y ∧ x = .int .i64 (j : Int) ∧ (j : Int) ≤ (200 : Int) ∧ 0 ≤ y ∧ y ≤ bud ∧ Aside0 (One B wr gl pg bud win q y) ∧ Aside0 (Below w.heap.size w wr)) (fun _ x _ => (200 : Int).toNat - (intOf x).toNat)
          case atStart => exact ⟨_, 0, rfl, rfl, by omega, by omega, by omega, HO, HB⟩
          case round =>
            clear HO HB hcell
            obtain ⟨y, j, rfl, rfl, hj, hy0, hy1, HO, HB⟩ := hrel
            by_cases hjx : (j : Int) < (200 : Int)
            · by_cases hfull : bud - y = 0
              · go_wp2_with fail
                refine (HO.out.full hfull).mono ?_
                rintro e v1 ⟨rfl, hb⟩
                replace HB := Aside0.mk (HB.out.trans (hb.mono (Nat.le_trans hsz HO.out.base)))
                replace HO := Aside0.mk (HO.out.later hb)
                clear hb
                go_wp2_with fail
                exact ⟨⟨y, j + 1, rfl, rfl, by omega, hy0, hy1, HO, HB⟩, by simp [intOf]; omega⟩
              · go_wp2_with fail
                refine (HO.out.spend (by omega) (by omega)).mono ?_
                rintro e v1 ⟨rfl, ho, hb⟩
                replace HB := Aside0.mk (HB.out.trans (hb.mono hsz))
                replace HO := Aside0.mk ho
                clear ho hb
                go_wp2_with fail
                exact ⟨⟨y + 1, j + 1, rfl, rfl, by omega, by omega, by omega, HO, HB⟩, by simp [intOf]; omega⟩
            · have hw5 : IntKind.i64.wrap (bud - y) = bud - y := IntWalk.i64_in _ (by omega)
              go_wp2_with fail
              refine (HO.out.left (by omega)).mono ?_
              rintro e v2 ⟨rfl, hb⟩
              replace HB := Aside0.mk (HB.out.trans (hb.mono (Nat.le_trans hsz HO.out.base)))
              replace HO := Aside0.mk (HO.out.later hb)
              clear hb
              go_wp2_with fail
              refine (HO.out.tick ⟨n1, by omega⟩ ⟨em0, em1⟩).mono ?_
              rintro e v3 ⟨rfl, ho, hb⟩
              replace HB := Aside0.mk (HB.out.trans (hb.mono hsz))
              rw [nm.out.1] at ho
              have HO2 := Aside0.mk ho
              clear ho hb HO
              go_wp2_with fail
              exact ⟨⟨y, i + 1, _, rfl, rfl, by omega, hy0, hy1, by split <;> omega, by split <;> omega, fun h0 => if_pos (nm.out.2.2 h0), fun h0 => if_neg (fun h1 => h0 (nm.out.2.1 h1)), HO2, HB⟩, by simp [intOf]; omega⟩
        · go_wp2_with fail
          go_loopw [13, 71] (fun xn x wr => ∃ (y : Int) (j : Nat), xn = .int .i64 y ∧ x = .int .i64 (j : Int) ∧ (j : Int) ≤ k ∧ 0 ≤ y ∧ y ≤ bud ∧ Aside0 (One B wr gl pg bud win q y) ∧ Aside0 (Below w.heap.size w wr)) (fun _ x _ => k.toNat - (intOf x).toNat)
          case atStart => exact ⟨_, 0, rfl, rfl, by omega, by omega, by omega, HO, HB⟩
          case round =>
            clear HO HB hcell
            obtain ⟨y, j, rfl, rfl, hj, hy0, hy1, HO, HB⟩ := hrel
            by_cases hjx : (j : Int) < k
            · by_cases hfull : bud - y = 0
              · go_wp2_with fail
                refine (HO.out.full hfull).mono ?_
                rintro e v1 ⟨rfl, hb⟩
                replace HB := Aside0.mk (HB.out.trans (hb.mono (Nat.le_trans hsz HO.out.base)))
                replace HO := Aside0.mk (HO.out.later hb)
                clear hb
                go_wp2_with fail
                exact ⟨⟨y, j + 1, rfl, rfl, by omega, hy0, hy1, HO, HB⟩, by simp [intOf]; omega⟩
              · go_wp2_with fail
                refine (HO.out.spend (by omega) (by omega)).mono ?_
                rintro e v1 ⟨rfl, ho, hb⟩
                replace HB := Aside0.mk (HB.out.trans (hb.mono hsz))
                replace HO := Aside0.mk ho
                clear ho hb
                go_wp2_with fail
                exact ⟨⟨y + 1, j + 1, rfl, rfl, by omega, by omega, by omega, HO, HB⟩, by simp [intOf]; omega⟩
            · have hw5 : IntKind.i64.wrap (bud - y) = bud - y := IntWalk.i64_in _ (by omega)
              go_wp2_with fail
              refine (HO.out.left (by omega)).mono ?_
              rintro e v2 ⟨rfl, hb⟩
              replace HB := Aside0.mk (HB.out.trans (hb.mono (Nat.le_trans hsz HO.out.base)))
              replace HO := Aside0.mk (HO.out.later hb)
              clear hb
              go_wp2_with fail
              refine (HO.out.tick ⟨n1, by omega⟩ ⟨em0, em1⟩).mono ?_
              rintro e v3 ⟨rfl, ho, hb⟩
              replace HB := Aside0.mk (HB.out.trans (hb.mono hsz))
              rw [nm.out.1] at ho
              have HO2 := Aside0.mk ho
              clear ho hb HO
              go_wp2_with fail
              exact ⟨⟨y, i + 1, _, rfl, rfl, by omega, hy0, hy1, by split <;> omega, by split <;> omega, fun h0 => if_pos (nm.out.2.2 h0), fun h0 => if_neg (fun h1 => h0 (nm.out.2.1 h1)), HO2, HB⟩, by simp [intOf]; omega⟩
      · obtain rfl := hyn hq
        clear hyz hyn
        have hq2 : (q == 0) = false := by rw [beq_eq_false_iff_ne]; exact hq
        rcases (show k < 0 ∨ (0 ≤ k ∧ 200 < k) ∨ (0 ≤ k ∧ k ≤ 200) by omega) with g1 | ⟨g1, g2⟩ | ⟨g1, g2⟩
        · go_wp2_with fail
          go_loopw [13, 71] (fun xn x wr => ∃ (y : Int) (j : Nat), xn = .int .i64 y ∧ x = .int .i64 (j : Int) ∧ (j : Int) ≤ (0 : Int) ∧ 0 ≤ y ∧ y ≤ bud ∧ Aside0 (One B wr gl pg bud win q y) ∧ Aside0 (Below w.heap.size w wr)) (fun _ x _ => (0 : Int).toNat - (intOf x).toNat)
          case atStart => exact ⟨_, 0, rfl, rfl, by omega, by omega, by omega, HO, HB⟩
          case round =>
            clear HO HB hcell
            obtain ⟨y, j, rfl, rfl, hj, hy0, hy1, HO, HB⟩ := hrel
            by_cases hjx : (j : Int) < (0 : Int)
            · by_cases hfull : bud - y = 0
              · go_wp2_with fail
                refine (HO.out.full hfull).mono ?_
                rintro e v1 ⟨rfl, hb⟩
                replace HB := Aside0.mk (HB.out.trans (hb.mono (Nat.le_trans hsz HO.out.base)))
                replace HO := Aside0.mk (HO.out.later hb)
                clear hb
                go_wp2_with fail
                exact ⟨⟨y, j + 1, rfl, rfl, by omega, hy0, hy1, HO, HB⟩, by simp [intOf]; omega⟩
              · go_wp2_with fail
                refine (HO.out.spend (by omega) (by omega)).mono ?_
                rintro e v1 ⟨rfl, ho, hb⟩
                replace HB := Aside0.mk (HB.out.trans (hb.mono hsz))
                replace HO := Aside0.mk ho
                clear ho hb
                go_wp2_with fail
                exact ⟨⟨y + 1, j + 1, rfl, rfl, by omega, by omega, by omega, HO, HB⟩, by simp [intOf]; omega⟩
            · have hw5 : IntKind.i64.wrap (bud - y) = bud - y := IntWalk.i64_in _ (by omega)
              go_wp2_with fail
              refine (HO.out.left (by omega)).mono ?_
              rintro e v2 ⟨rfl, hb⟩
              replace HB := Aside0.mk (HB.out.trans (hb.mono (Nat.le_trans hsz HO.out.base)))
              replace HO := Aside0.mk (HO.out.later hb)
              clear hb
              go_wp2_with fail
              refine (HO.out.tick ⟨n1, by omega⟩ ⟨em0, em1⟩).mono ?_
              rintro e v3 ⟨rfl, ho, hb⟩
              replace HB := Aside0.mk (HB.out.trans (hb.mono hsz))
              rw [nm.out.1] at ho
              have HO2 := Aside0.mk ho
              clear ho hb HO
              go_wp2_with fail
              exact ⟨⟨y, i + 1, _, rfl, rfl, by omega, hy0, hy1, by split <;> omega, by split <;> omega, fun h0 => if_pos (nm.out.2.2 h0), fun h0 => if_neg (fun h1 => h0 (nm.out.2.1 h1)), HO2, HB⟩, by simp [intOf]; omega⟩
        · go_wp2_with fail
          go_loopw [13, 71] (fun xn x wr => ∃ (y : Int) (j : Nat), xn = .int .i64 y ∧ x = .int .i64 (j : Int) ∧ (j : Int) ≤ (200 : Int) ∧ 0 ≤ y ∧ y ≤ bud ∧ Aside0 (One B wr gl pg bud win q y) ∧ Aside0 (Below w.heap.size w wr)) (fun _ x _ => (200 : Int).toNat - (intOf x).toNat)
          case atStart => exact ⟨_, 0, rfl, rfl, by omega, by omega, by omega, HO, HB⟩
          case round =>
            clear HO HB hcell
            obtain ⟨y, j, rfl, rfl, hj, hy0, hy1, HO, HB⟩ := hrel
            by_cases hjx : (j : Int) < (200 : Int)
            · by_cases hfull : bud - y = 0
              · go_wp2_with fail
                refine (HO.out.full hfull).mono ?_
                rintro e v1 ⟨rfl, hb⟩
                replace HB := Aside0.mk (HB.out.trans (hb.mono (Nat.le_trans hsz HO.out.base)))
                replace HO := Aside0.mk (HO.out.later hb)
                clear hb
                go_wp2_with fail
                exact ⟨⟨y, j + 1, rfl, rfl, by omega, hy0, hy1, HO, HB⟩, by simp [intOf]; omega⟩
              · go_wp2_with fail
                refine (HO.out.spend (by omega) (by omega)).mono ?_
                rintro e v1 ⟨rfl, ho, hb⟩
                replace HB := Aside0.mk (HB.out.trans (hb.mono hsz))
                replace HO := Aside0.mk ho
                clear ho hb
                go_wp2_with fail
                exact ⟨⟨y + 1, j + 1, rfl, rfl, by omega, by omega, by omega, HO, HB⟩, by simp [intOf]; omega⟩
            · have hw5 : IntKind.i64.wrap (bud - y) = bud - y := IntWalk.i64_in _ (by omega)
              go_wp2_with fail
              refine (HO.out.left (by omega)).mono ?_
              rintro e v2 ⟨rfl, hb⟩
              replace HB := Aside0.mk (HB.out.trans (hb.mono (Nat.le_trans hsz HO.out.base)))
              replace HO := Aside0.mk (HO.out.later hb)
              clear hb
              go_wp2_with fail
              refine (HO.out.tick ⟨n1, by omega⟩ ⟨em0, em1⟩).mono ?_
              rintro e v3 ⟨rfl, ho, hb⟩
              replace HB := Aside0.mk (HB.out.trans (hb.mono hsz))
              rw [nm.out.1] at ho
              have HO2 := Aside0.mk ho
              clear ho hb HO
              go_wp2_with fail
              exact ⟨⟨y, i + 1, _, rfl, rfl, by omega, hy0, hy1, by split <;> omega, by split <;> omega, fun h0 => if_pos (nm.out.2.2 h0), fun h0 => if_neg (fun h1 => h0 (nm.out.2.1 h1)), HO2, HB⟩, by simp [intOf]; omega⟩
        · go_wp2_with fail
          go_loopw [13, 71] (fun xn x wr => ∃ (y : Int) (j : Nat), xn = .int .i64 y ∧ x = .int .i64 (j : Int) ∧ (j : Int) ≤ k ∧ 0 ≤ y ∧ y ≤ bud ∧ Aside0 (One B wr gl pg bud win q y) ∧ Aside0 (Below w.heap.size w wr)) (fun _ x _ => k.toNat - (intOf x).toNat)
          case atStart => exact ⟨_, 0, rfl, rfl, by omega, by omega, by omega, HO, HB⟩
          case round =>
            clear HO HB hcell
            obtain ⟨y, j, rfl, rfl, hj, hy0, hy1, HO, HB⟩ := hrel
            by_cases hjx : (j : Int) < k
            · by_cases hfull : bud - y = 0
              · go_wp2_with fail
                refine (HO.out.full hfull).mono ?_
                rintro e v1 ⟨rfl, hb⟩
                replace HB := Aside0.mk (HB.out.trans (hb.mono (Nat.le_trans hsz HO.out.base)))
                replace HO := Aside0.mk (HO.out.later hb)
                clear hb
                go_wp2_with fail
                exact ⟨⟨y, j + 1, rfl, rfl, by omega, hy0, hy1, HO, HB⟩, by simp [intOf]; omega⟩
              · go_wp2_with fail
                refine (HO.out.spend (by omega) (by omega)).mono ?_
                rintro e v1 ⟨rfl, ho, hb⟩
                replace HB := Aside0.mk (HB.out.trans (hb.mono hsz))
                replace HO := Aside0.mk ho
                clear ho hb
                go_wp2_with fail
                exact ⟨⟨y + 1, j + 1, rfl, rfl, by omega, by omega, by omega, HO, HB⟩, by simp [intOf]; omega⟩
            · have hw5 : IntKind.i64.wrap (bud - y) = bud - y := IntWalk.i64_in _ (by omega)
              go_wp2_with fail
              refine (HO.out.left (by omega)).mono ?_
              rintro e v2 ⟨rfl, hb⟩
              replace HB := Aside0.mk (HB.out.trans (hb.mono (Nat.le_trans hsz HO.out.base)))
              replace HO := Aside0.mk (HO.out.later hb)
              clear hb
              go_wp2_with fail
              refine (HO.out.tick ⟨n1, by omega⟩ ⟨em0, em1⟩).mono ?_
              rintro e v3 ⟨rfl, ho, hb⟩
              replace HB := Aside0.mk (HB.out.trans (hb.mono hsz))
              rw [nm.out.1] at ho
              have HO2 := Aside0.mk ho
              clear ho hb HO
              go_wp2_with fail
              exact ⟨⟨y, i + 1, _, rfl, rfl, by omega, hy0, hy1, by split <;> omega, by split <;> omega, fun h0 => if_pos (nm.out.2.2 h0), fun h0 => if_neg (fun h1 => h0 (nm.out.2.1 h1)), HO2, HB⟩, by simp [intOf]; omega⟩
    · obtain rfl : m = i := by omega
      go_wp2_with fail
      refine (ptwo_then HB.out).mono ?_
      rintro e w8 ⟨rfl, hb⟩
      go_wp2_with fail
      go_ret
      exact ⟨rfl, hb⟩
theorem wf_bounds {n : Int} (h : (Lit.int .i64 n).wf = true) : -9223372036854775808 ≤ n ∧ n ≤ 9223372036854775807 := by
  simp [Lit.wf] at h
  have e : IntKind.i64.min = -9223372036854775808 := by decide
  omega
theorem pwin_walk (a0 a1 : Int) (a2 : Option Addr) (len2 cap2 : Nat) (z2 : List Int) (w : World) (w0 : (Lit.int .i64 a0).wf = true) (w1 : (Lit.int .i64 a1).wf = true) (w2 : (a2 = none ∧ len2 = 0 ∧ cap2 = 0 ∧ z2 = []) ∨ ∃ x, a2 = some x ∧ len2 ≤ cap2 ∧ cap2 ≤ maxLen ∧ z2.length = cap2 ∧ (∀ i, i < z2.length → w.cell? (x.add i) = some (.int .i64 (z2.getD i 0))) ∧ ∀ n ∈ z2, (Lit.int .i64 n).wf = true) (y2 : len2 * 8 ≤ 140737488351232) :
    Calls Try.prog 10 #[.int .i64 a0, .int .i64 a1, .slice a2 len2 cap2] w fun e w' => e = .returned (.bool true) ∧ Below w.heap.size w w' := by
  obtain ⟨l, rfl, hr0, hm0, hw0, hc0⟩ := ReadsInt.ofRowC w2
  exact pwin_core a0 a1 a2 _ cap2 l ⟨rfl⟩ w (Kd.C_of_reads (d := (0 : Int)) (h1 := fun _ => rfl) hr0) (fun x hx => wf_bounds (hw0 x hx))
end Go.Proofs.Yteopponjfkeagaa.Lat
