import Derived.Test.YteopponjfkeagaaPolL
namespace Go.Proofs.Yteopponjfkeagaa.Lat
open Go.RowKit Go.Maps Go.Proofs.YteopponjfkeagaaW.PrintWords Go.Proofs.YteopponjfkeagaaW.PrintLast Go.Proofs.YteopponjfkeagaaW.PrintMore Go.Proofs.Yteopponjfkeagaa.PPol
set_option linter.unusedVariables false
set_option linter.unusedSimpArgs false

theorem info61 : (Try.prog.info? 61).map (fun i => (i.zero, i.size, i.bytes)) = some (some (.agg #[.int .i64 0, .int .i64 0]), 2, 16) := by kernel_rfl
abbrev R61 (w : World) (b : Nat) (o : Value) (ds : List S61) : Prop := Kd.R k61 61 w b (fun _ => True) o ds
theorem Led.base {B : Nat} {w : World} {gl pg : Nat} {l : List S58} {win at_ : Int} {sp : List Int} (h : Led B w gl pg l win at_ sp) : B ≤ w.heap.size := by
  obtain ⟨_, _, h3, sg, _, h5, _⟩ := h
  exact Nat.le_trans h3 (Nat.le_of_lt (blk_lt h5))
theorem c61 {W : World} {b : Nat} {A : Option Addr} {n c : Nat} {ds : List S61} (h : R61 W b (.slice A n c) ds) : Kd.C k61 W A n ds := by
  obtain ⟨rfl, _, h⟩ := Kd.R_reads' h
  exact h
set_option maxHeartbeats 8000000 in
set_option maxRecDepth 8000 in
theorem pspend_core {A A1 A2 : Option Addr} {c n m c1 k c2 : Nat} (f : List (List Bool)) (l : List S58) (q : List Int) (hn : Aside0 (f.length = n)) (hm : Aside0 (l.length = m)) (hk : Aside0 (q.length = k)) (hq : Aside0 (∀ x ∈ q, okI x)) (w : World) (hC : Kd.C (Kd.slice 4 Kd.bool) w A n f) (hc : n ≤ c) (hC1 : Kd.C k58 w A1 m l) (hc1 : m ≤ c1) (hC2 : Kd.C (Kd.int .i64) w A2 k q) (hc2 : k ≤ c2) :
    Ok w w.heap.size w 9 #[.slice A n c, .slice A1 m c1, .slice A2 k c2] (.bool true) := by
  have HC := Aside0.mk hC
  have HC1 := Aside0.mk hC1
  have HC2 := Aside0.mk hC2
  obtain ⟨r, h40, HL⟩ := prlarge hn.out hC hc hm.out hC1 hc1
  replace HL := Aside0.mk HL
  replace h40 := Aside0.mk h40
  clear hC hC1 hC2
  have HB := Aside0.mk (Below.refl w.heap.size w)
  go_enter Try.func9, Try.ntmps9
  go_wp2_with fail
  refine (HL.out _ HB.out).mono ?_
  rintro e w1 ⟨rfl, hb⟩
  replace HB := Aside0.mk (below_step HB.out hb)
  clear hb HL
  cases r
  case true =>
    go_wp2_with fail
    refine (ptwo_then HB.out).mono ?_
    rintro e w2 ⟨rfl, hb⟩
    go_wp2_with fail
    go_ret
    exact ⟨rfl, hb⟩
  obtain ⟨h40, h60⟩ := h40.out rfl
  obtain ⟨r, hw, HW⟩ := prw04 hn.out HC.out hc h40
  replace HW := Aside0.mk HW
  replace hw := Aside0.mk hw
  go_wp2_with fail
  refine (HW.out _ HB.out).mono ?_
  rintro e w2 ⟨rfl, hb⟩
  replace HB := Aside0.mk (below_step HB.out hb)
  clear hb HW
  by_cases hr : r = 0
  case neg =>
    have hr2 : (r == 0) = false := by simpa using hr
    go_wp2_with fail
    refine (ptwo_then HB.out).mono ?_
    rintro e w3 ⟨rfl, hb⟩
    go_wp2_with fail
    go_ret
    exact ⟨rfl, hb⟩
  subst hr
  have HG := Aside0.mk hw.out.good
  have h6 : n ≤ 6 := by have := HG.out.s.2.1; rw [hn.out] at this; exact this
  clear hw
  have hwr := fun W (hW : Below w.heap.size w W) => prwrong HG.out.s hn.out (Kd.C_below HC.out hW) hc hm.out (Kd.C_below HC1.out hW) hc1 h60
  obtain ⟨cd, hcd⟩ : ∃ cd, polNew n (flR f n) l = cd := ⟨_, rfl⟩
  rw [hcd] at hwr
  have HCD := Aside0.mk hcd
  clear hcd
  replace hwr := Aside0.mk hwr
  go_wp2_with fail
  refine (hwr.out _ HB.out).mono ?_
  rintro e w3 ⟨rfl, hb⟩
  replace HB := Aside0.mk (below_step HB.out hb)
  clear hb hwr
  by_cases h0 : cd = 0
  case neg =>
    have hr2 : (cd == 0) = false := by simpa using h0
    go_wp2_with fail
    refine (ptwo_then HB.out).mono ?_
    rintro e w3 ⟨rfl, hb⟩
    go_wp2_with fail
    go_ret
    exact ⟨rfl, hb⟩
  subst h0
  obtain ⟨hbud, hm16⟩ := buds HCD.out
  rw [hm.out] at hm16
  replace hbud := Aside0.mk hbud
  by_cases hks : 1 ≤ k ∧ k ≤ 60
  case neg =>
    have hks2 : (60 : Int) < k ∨ ((k : Int) ≤ 60 ∧ k = 0) := by omega
    clear hks
    rcases hks2 with h1 | ⟨h1, rfl⟩
    all_goals
      go_wp2_with fail
      refine (ptwo_then HB.out).mono ?_
      rintro e w3 ⟨rfl, hb⟩
      go_wp2_with fail
      go_ret
      exact ⟨rfl, hb⟩
  obtain ⟨hk1, hk2⟩ := hks
  have hk3 : (k : Int) ≤ 60 := by omega
  have hk4 : ((k : Int) == 0) = false := by rw [beq_eq_false_iff_ne]; omega
  have hk5 : (0 : Int) < (k : Int) := by omega
  have hk6 : (1 : Int) ≤ (k : Int) := by omega
  have hk7 : (k : Int) ≤ (c2 : Int) := by omega
  go_wp2_with fail
  refine (New_calls' f hn (Kd.C_below HC.out HB.out)).mono ?_
  rintro e w4 ⟨hnew, hb⟩
  obtain ⟨g, rfl, hlat⟩ := HG.out.new hnew
  rw [hn.out] at hlat
  have HLt := Aside0.mk hlat
  replace HB := Aside0.mk (below_step HB.out hb)
  clear hb hlat hnew
  go_wp2_with fail
  refine (PolNew_calls l hm h6 (lat_sized HLt.out) (lat_flowing HLt.out h6) (Kd.C_below HC1.out HB.out)).mono ?_
  rintro e w5 ⟨hnew, hb⟩
  obtain ⟨pg, rfl, hpol⟩ := pol2 HCD.out hnew
  have HP := Aside0.mk hpol
  replace HB := Aside0.mk (below_step HB.out hb)
  clear hb hnew hpol HLt
  obtain ⟨a0, rfl, hq0⟩ := Kd.at_int HC2.out (0 : Int) (Int.le_refl 0) hk5
  replace hq0 := (HB.out.cell (World.block_lt_of_cell? w _ hq0)).trans hq0
  generalize rd q 0 = win at *
  change w5.cell? a0 = _ at hq0
  by_cases hwin : 1 ≤ win ∧ win ≤ 1048576
  case neg =>
    have hw2 : win < 1 ∨ (1 ≤ win ∧ 1048576 < win) := by omega
    have hbad := Ledger_bad (w := w5) pg hw2
    replace hbad := Aside0.mk hbad
    clear hwin
    rcases hw2 with h1 | ⟨h1, h2⟩
    all_goals
      go_wp2_with fail
      refine hbad.out.mono ?_
      rintro e w6 ⟨rfl, hb⟩
      have HB2 := Aside0.mk (below_step HB.out hb)
      clear hb
      go_wp2_with fail
      refine (ptwo_then HB2.out).mono ?_
      rintro e w7 ⟨rfl, hb⟩
      go_wp2_with fail
      go_ret
      exact ⟨rfl, hb⟩
  obtain ⟨hw1, hw2⟩ := hwin
  go_wp2_with fail
  refine (Ledger_calls HP.out (win := win) ⟨hw1, hw2⟩ (by rw [hm.out]; omega)).mono ?_
  rintro e w6 ⟨gl, rfl, hled, hb⟩
  have hsz := HB.out.size
  have HO : Aside0 (Led w5.heap.size w6 gl pg l win 0 (zeros l.length)) := ⟨hled⟩
  replace HB := Aside0.mk (below_step HB.out hb)
  clear hb hled HP hq0
  obtain ⟨B, hB⟩ : ∃ B, w5.heap.size = B := ⟨_, rfl⟩
  rw [hB] at HO hsz
  clear hB
  have HI : Aside0 (Inv l (zeros l.length) [] win 0) := ⟨Inv.start ⟨hw1, hw2⟩ (fun i hi => (hbud.out i hi).1)⟩
  by_cases c21 : c2 = 1
  · subst c21
    go_wp2_with fail
    go_loopw [14, 15, 91] (fun o nw x wr => ∃ (i t dm : Nat) (ds : List S61) (sp : List Int), nw = .int .i64 (t : Int) ∧ x = .int .i64 (i : Int) ∧ i + 1 ≤ k ∧ t ≤ i ∧ dm ≤ i ∧ Aside0 (ds.length = dm) ∧ Aside0 (Led B wr gl pg l win ((t : Int) % win) sp) ∧ Aside0 (Inv l sp ds win (t : Int)) ∧ Aside0 (R61 wr w.heap.size o ds) ∧ Aside0 (Below w.heap.size w wr)) (fun _ _ x _ => k - (intOf x).toNat)
    case atStart => exact ⟨0, 0, 0, [], _, rfl, rfl, by omega, Nat.le_refl 0, Nat.le_refl 0, ⟨rfl⟩, ⟨by rw [show ((0 : Nat) : Int) % win = 0 from Int.zero_emod win]; exact HO.out⟩, HI, ⟨Kd.R_nil _ _ _ _ _⟩, HB⟩
    case round =>
      clear HO HB HI
      obtain ⟨i, t, dm, ds, sp, rfl, rfl, hi, ht, hdm, HD, HO, HI, HR, HB⟩ := hrel
      obtain ⟨Ad, cd, eo, hcd, _⟩ := Kd.R_reads HR.out
      rw [HD.out] at hcd eo
      subst eo
      have hlefts := fun W (h1 : Below w.heap.size w W) (h2 : Led B W gl pg l win ((t : Int) % win) sp) (h3 : R61 W w.heap.size (.slice Ad dm cd) ds) => lefts_calls hm (Kd.C_below HC1.out h1) hc1 HD (c61 h3) hcd h2 HI.out hbud.out (by omega) (by omega) hm16
      replace hlefts := Aside0.mk hlefts
      obtain rfl : k = 1 := by omega
      obtain rfl : i = 0 := by omega
      go_wp2_with fail
      refine (hlefts.out _ HB.out HO.out HR.out).mono ?_
      rintro e v1 ⟨rfl, hb⟩
      have HB2 := Aside0.mk (below_step HB.out hb)
      clear hb
      go_wp2_with fail
      refine (ptwo_then HB2.out).mono ?_
      rintro e v2 ⟨rfl, hb⟩
      go_wp2_with fail
      go_ret
      exact ⟨rfl, hb⟩
  · go_wp2_with fail
    go_loopw [14, 15, 91] (fun o nw x wr => ∃ (i t dm : Nat) (ds : List S61) (sp : List Int), nw = .int .i64 (t : Int) ∧ x = .int .i64 (i : Int) ∧ i + 1 ≤ k ∧ t ≤ i ∧ dm ≤ i ∧ Aside0 (ds.length = dm) ∧ Aside0 (Led B wr gl pg l win ((t : Int) % win) sp) ∧ Aside0 (Inv l sp ds win (t : Int)) ∧ Aside0 (R61 wr w.heap.size o ds) ∧ Aside0 (Below w.heap.size w wr)) (fun _ _ x _ => k - (intOf x).toNat)
    case atStart => exact ⟨0, 0, 0, [], _, rfl, rfl, by omega, Nat.le_refl 0, Nat.le_refl 0, ⟨rfl⟩, ⟨by rw [show ((0 : Nat) : Int) % win = 0 from Int.zero_emod win]; exact HO.out⟩, HI, ⟨Kd.R_nil _ _ _ _ _⟩, HB⟩
    case round =>
      clear HO HB HI
      obtain ⟨i, t, dm, ds, sp, rfl, rfl, hi, ht, hdm, HD, HO, HI, HR, HB⟩ := hrel
      obtain ⟨Ad, cd, eo, hcd, _⟩ := Kd.R_reads HR.out
      rw [HD.out] at hcd eo
      subst eo
      have hlefts := fun W (h1 : Below w.heap.size w W) (h2 : Led B W gl pg l win ((t : Int) % win) sp) (h3 : R61 W w.heap.size (.slice Ad dm cd) ds) => lefts_calls hm (Kd.C_below HC1.out h1) hc1 HD (c61 h3) hcd h2 HI.out hbud.out (by omega) (by omega) hm16
      replace hlefts := Aside0.mk hlefts
      by_cases hx : (i : Int) < ((k - 1 : Nat) : Int)
      case neg =>
        clear HI
        go_wp2_with fail
        refine (hlefts.out _ HB.out HO.out HR.out).mono ?_
        rintro e v1 ⟨rfl, hb⟩
        have HB2 := Aside0.mk (below_step HB.out hb)
        clear hb
        go_wp2_with fail
        refine (ptwo_then HB2.out).mono ?_
        rintro e v2 ⟨rfl, hb⟩
        go_wp2_with fail
        go_ret
        exact ⟨rfl, hb⟩
      obtain ⟨a1, e1, hcell⟩ := Kd.at_int HC2.out ((i + 1 : Nat) : Int) (by omega) (by omega)
      rw [Int.toNat_natCast, Option.some.injEq] at *
      subst e1
      replace hcell : w.cell? ⟨a0.block, a0.off + 1 + i, none⟩ = some (.int .i64 (rd q ((i + 1 : Nat) : Int))) := by
        rw [← hcell, show a0.add (i + 1) = ⟨a0.block, a0.off + (i + 1), none⟩ from rfl, Nat.add_comm i 1, Nat.add_assoc]
      replace hcell := (HB.out.cell (World.block_lt_of_cell? w _ hcell)).trans hcell
      have hnv := hq.out _ (rd_mem q (i + 1) (by rw [hk.out]; omega))
      generalize rd q ((i + 1 : Nat) : Int) = nv at *
      have hlen : sp.length = m := by rw [← hm.out]; exact HO.out.2.1
      rcases (show nv < 0 ∨ (0 ≤ nv ∧ (m : Int) ≤ nv) ∨ ∃ j : Nat, nv = (j : Int) ∧ j < m by
        by_cases g1 : nv < 0
        · exact .inl g1
        · by_cases g2 : (m : Int) ≤ nv
          · exact .inr (.inl ⟨by omega, g2⟩)
          · exact .inr (.inr ⟨nv.toNat, by omega, by omega⟩)) with g1 | ⟨g1, g2⟩ | ⟨j, rfl, hj⟩
      · have ht2 := Tick2 HO.out ⟨hw1, hw2⟩ ⟨Int.emod_nonneg _ (by omega), Int.emod_lt_of_pos _ (by omega)⟩ (by omega)
        have nm := next_modJ (i := (t : Int)) (by omega) hw1
        rw [nm.1] at ht2
        replace ht2 := Aside0.mk ht2
        have HI2 := Aside0.mk (HI.out.tick (fun i hi => (hbud.out i hi).1))
        clear hlefts nm
        go_wp2_with fail
        refine ht2.out.mono ?_
        rintro e v1 ⟨rfl, ho, hb, hkeep⟩
        have HO2 := Aside0.mk ho
        have HR2 := Aside0.mk (hkeep _ _ _ HR.out)
        have HB2 := Aside0.mk (HB.out.trans (hb.mono hsz))
        clear ho hb hkeep HO HR HB ht2
        go_wp2_with fail
        exact ⟨⟨i + 1, t + 1, dm, ds, _, rfl, rfl, by omega, by omega, by omega, HD, HO2, HI2, HR2, HB2⟩, by simp [intOf]; omega⟩
      · have hout := Spend_out HO.out (a := nv) (by
          rw [Bool.eq_false_iff]
          intro q
          rw [hm.out] at q
          have := inN_iff.1 q
          omega)
        replace hout := Aside0.mk hout
        clear hlefts
        go_wp2_with fail
        refine hout.out.mono ?_
        rintro e v1 ⟨rfl, hb⟩
        have HO2 := Aside0.mk (HO.out.later hb)
        have HR2 := Aside0.mk (Kd.R_below HR.out hb)
        have HB2 := Aside0.mk (below_step HB.out hb)
        clear hb HO HR HB hout
        go_wp2_with fail
        exact ⟨⟨i + 1, t, dm, ds, _, rfl, rfl, by omega, by omega, by omega, HD, HO2, HI, HR2, HB2⟩, by simp [intOf]; omega⟩
      · have hjl : (j : Int) < (m : Int) := by omega
        have hbj := hbud.out j (by rw [hm.out]; exact hj)
        have hsj := HI.out.s j (by rw [hm.out]; exact hj)
        have hbb := HI.out.b j (by rw [hm.out]; exact hj)
        have hnn := spentF_nonneg ds j win t
        have hspent := fun W (h1 : R61 W w.heap.size (.slice Ad dm cd) ds) => spent_calls (cd := cd) (ds := ds) (by rw [HD.out]; exact c61 h1) (by rw [HD.out]; exact hcd) HI.out (by omega) (by rw [HD.out]; omega) (j : Int)
        rw [HD.out] at hspent
        replace hspent := Aside0.mk hspent
        obtain ⟨ad, eA, p0, p1, p2⟩ := at_T58 HC1.out j (by omega) hjl
        subst eA
        rw [Int.toNat_natCast] at p2
        clear p0 p1
        have hS : ∀ W : World, Below w.heap.size w W → W.cell? ⟨(ad.add (j * 3)).block, (ad.add (j * 3)).off + 2, none⟩ = some (.int .i64 (rd_T58 l j).f2) := fun W hW => (hW.cell (World.block_lt_of_cell? w _ p2)).trans p2
        replace hS := Aside0.mk hS
        clear p2
        obtain ⟨bd, hbd⟩ : ∃ bd, (rd_T58 l j).f2 = bd := ⟨_, rfl⟩
        rw [hbd] at hS
        have hleft : leftF l sp j = bd - spentF ds j win t := by
          unfold leftF
          rw [hbd, hsj]
        rw [hbd] at hbj hbb
        obtain ⟨s, hs⟩ : ∃ s, spentF ds j win t = s := ⟨_, rfl⟩
        rw [hs] at hspent hleft hsj hnn
        clear hs hbd
        rw [hsj] at hbb
        have hwr : IntKind.i64.wrap (bd - s) = bd - s := IntWalk.i64_in _ (by omega)
        obtain ⟨lf, hlf⟩ : ∃ lf, bd - s = lf := ⟨_, rfl⟩
        rw [hlf] at hwr hleft
        by_cases hfull : lf = 0
        · have hcall := Aside0.mk (Spend_zero HO.out (i := j) (by rw [hm.out]; exact hj) (by rw [hleft]; exact hfull))
          go_wp2_with fail
          refine hcall.out.mono ?_
          rintro e v1 ⟨rfl, hb⟩
          have HO2 := Aside0.mk (HO.out.later hb)
          have HR2 := Aside0.mk (Kd.R_below HR.out hb)
          have HB2 := Aside0.mk (below_step HB.out hb)
          clear hb HO HR HB hcall hcell
          go_upto_region 21 with fail
          have HOd := Aside0.mk (HO2.out.later (below_drew (Below.refl _ _)))
          have HRd := Aside0.mk (Kd.R_below HR2.out (below_drew (Below.refl _ _)))
          have HBd := Aside0.mk (below_drew HB2.out)
          clear HO2 HR2 HB2
          go_region_held3 (fun w' => w'.cell? ⟨(ad.add (j * 3)).block, (ad.add (j * 3)).off + 2, none⟩ = some (.int .i64 bd))
            (first | exact hS.out _ k1.out | exact hS.out _ HBd.out)
            (first | (go_at_call 47; refine (hspent.out _ HRd.out).mono ?_; rintro e w' ⟨rfl, hb⟩; have k1 := Aside0.mk (below_step HBd.out hb); have l1 := Aside0.mk (HOd.out.later hb); have m1 := Aside0.mk (Kd.R_below HRd.out hb); clear hb))
          clear HOd HRd HBd hS hspent
          subst hfull
          go_wp2_with fail
          refine (hlefts.out _ k1.out l1.out m1.out).mono ?_
          rintro e v2 ⟨rfl, hb⟩
          have HO2 := Aside0.mk (l1.out.later hb)
          have HR2 := Aside0.mk (Kd.R_below m1.out hb)
          have HB2 := Aside0.mk (below_step k1.out hb)
          clear hb k1 l1 m1
          go_wp2_with fail
          exact ⟨⟨i + 1, t, dm, ds, _, rfl, rfl, by omega, by omega, by omega, HD, HO2, HI, HR2, HB2⟩, by simp [intOf]; omega⟩
        · have hpos : 0 < lf := by omega
          have hcall := Aside0.mk (Spend_in2 HO.out (i := j) (by rw [hm.out]; exact hj) (by rw [hleft]; omega) (by rw [hsj]; omega))
          have HI2 := Aside0.mk (HI.out.spend (j := j) (by rw [hlen]; exact hj) (by rw [hleft]; exact hpos))
          have HD2 : Aside0 ((ds ++ [(⟨(t : Int), (j : Int)⟩ : S61)]).length = dm + 1) := ⟨by rw [List.length_append, HD.out]; rfl⟩
          have hdl : ds.length < 1000 := by rw [HD.out]; omega
          have hlefts2 := fun W A' c' (h1 : Below w.heap.size w W) (h2 : Led B W gl pg l win ((t : Int) % win) (sp.set j (rd sp j + 1))) (h4 : dm + 1 ≤ c') (h3 : R61 W w.heap.size (.slice A' (dm + 1) c') (ds ++ [(⟨(t : Int), (j : Int)⟩ : S61)])) => lefts_calls (dm := dm + 1) hm (Kd.C_below HC1.out h1) hc1 HD2 (c61 h3) h4 h2 HI2.out hbud.out (by omega) (by omega) hm16
          replace hlefts2 := Aside0.mk hlefts2
          generalize sp.set j (rd sp j + 1) = sp2 at *
          clear hlefts hsj hbb hbj
          go_wp2_with fail
          refine hcall.out.mono ?_
          rintro e v1 ⟨rfl, ho, hb, hkeep⟩
          have HO2 := Aside0.mk ho
          have HR2 := Aside0.mk (hkeep _ _ _ HR.out)
          have HB2 := Aside0.mk (HB.out.trans (hb.mono hsz))
          clear ho hb hkeep HO HR HB hcall hcell
          go_upto_region 21 with fail
          have HOd := Aside0.mk (HO2.out.later (below_drew (Below.refl _ _)))
          have HRd := Aside0.mk (Kd.R_below HR2.out (below_drew (Below.refl _ _)))
          have HBd := Aside0.mk (below_drew HB2.out)
          clear HO2 HR2 HB2
          go_region_held3 (fun w' => w'.cell? ⟨(ad.add (j * 3)).block, (ad.add (j * 3)).off + 2, none⟩ = some (.int .i64 bd))
            (first | exact hS.out _ k1.out | exact hS.out _ HBd.out)
            (first | (go_at_call 47; refine (hspent.out _ HRd.out).mono ?_; rintro e w' ⟨rfl, hb⟩; have k1 := Aside0.mk (below_step HBd.out hb); have l1 := Aside0.mk (HOd.out.later hb); have m1 := Aside0.mk (Kd.R_below HRd.out hb); clear hb))
          clear HOd HRd HBd hS hspent
          go_wp2_with (first | ((with_reducible refine gate_builtin (b := .append) (xs := #[.tmp 136, .tmp 140]) rfl ?_); at_builtin; refine Kd.R_append k61 (w0 := w) w.heap.size rfl (.tmp 136) (.tmp 140) 55 61 (.agg #[.int .i64 0, .int .i64 0]) 16 rfl Try.underlying55 info61 rfl (by decide) (by omega) (.slice Ad dm cd) ds ⟨(t : Int), (j : Int)⟩ [.int .i64 (t : Int), .int .i64 (j : Int)] (fun _ => True) (fun _ => False) rfl rfl ?aP (fun _ hk => hk.elim) ?aF ?aO ?aB ?aS ?aL ?_; (case aP => exact k61_mkM _ _ _ _); (case aB => exact k1.out); (case aF => exact (fun _ _ => trivial)); (case aO => exact m1.out); (case aS => exact below_size k1.out); (case aL => omega); intro v163 w11 ho hb hg hat; have HO3 := Aside0.mk (l1.out.grown hg (fun k e => Kd.R_typed m1.out k e)); have HR3 := Aside0.mk ho; have HB3 := Aside0.mk hb; clear ho hb hg hat k1 l1 m1; obtain ⟨Ad2, cd2, eo2, hcd2, _⟩ := Kd.R_reads HR3.out; rw [HD2.out] at eo2 hcd2; subst eo2))
          refine (hlefts2.out _ _ _ HB3.out HO3.out hcd2 HR3.out).mono ?_
          rintro e v2 ⟨rfl, hb⟩
          have HO4 := Aside0.mk (HO3.out.later hb)
          have HR4 := Aside0.mk (Kd.R_below HR3.out hb)
          have HB4 := Aside0.mk (below_step HB3.out hb)
          clear hb HO3 HR3 HB3 hlefts2
          go_wp2_with fail
          exact ⟨⟨i + 1, t, dm + 1, _, _, rfl, rfl, by omega, by omega, by omega, HD2, HO4, HI2, HR4, HB4⟩, by simp [intOf]; omega⟩
end Go.Proofs.Yteopponjfkeagaa.Lat
