import Derived.Test.YteopponjfkeagaaLat25
import Derived.Deep.RegionHeld3
namespace Go.Proofs.Yteopponjfkeagaa.Lat
open Go.RowKit Go.Maps Go.Proofs.YteopponjfkeagaaW.PrintWords Go.Proofs.YteopponjfkeagaaW.PrintLast Go.Proofs.YteopponjfkeagaaW.PrintMore Go.Proofs.Yteopponjfkeagaa.PLattice
set_option linter.unusedVariables false
set_option linter.unusedSimpArgs false

section
variable {f : List (List Bool)} {n : Nat} (h : Good f) (hn : f.length = n)
include h hn
theorem bots : ∀ a : Nat, a ≤ n → ∃ m : Nat, least (mT n (flR f n)) a = m ∧ m < n ∧ ∀ i, i < a → flowsF n (flR f n) m i = true
  | 0, _ => ⟨0, rfl, by have := h.s.1; omega, fun i hi => absurd hi (by omega)⟩
  | a + 1, ha => by
    obtain ⟨m, e, hm, hall⟩ := bots a (by omega)
    have ha' : a < n := by omega
    obtain ⟨e2, hj⟩ := mn_is h hn hm ha'
    have e3 : least (mT n (flR f n)) (a + 1) = (mn f n m a : Nat) := by
      show mT n (flR f n) (least (mT n (flR f n)) a) a = _
      rw [e]
      unfold mT
      rw [jT_in hm ha', e2]
    refine ⟨mn f n m a, e3, hj.1, fun i hi => ?_⟩
    rcases Nat.lt_succ_iff_lt_or_eq.1 hi with hi | rfl
    · exact (good_ord h hn).trans _ m i hj.1 hm (by omega) hj.2.1 (hall i hi)
    · exact hj.2.2.1
theorem tops : ∀ a : Nat, a ≤ n → ∃ m : Nat, least (jT n (flR f n)) a = m ∧ m < n ∧ ∀ i, i < a → flowsF n (flR f n) i m = true
  | 0, _ => ⟨0, rfl, by have := h.s.1; omega, fun i hi => absurd hi (by omega)⟩
  | a + 1, ha => by
    obtain ⟨m, e, hm, hall⟩ := tops a (by omega)
    have ha' : a < n := by omega
    obtain ⟨e2, hj⟩ := jn_is h hn hm ha'
    have e3 : least (jT n (flR f n)) (a + 1) = (jn f n m a : Nat) := by
      show jT n (flR f n) (least (jT n (flR f n)) a) a = _
      rw [e]
      unfold jT
      rw [jT_in hm ha', e2]
    refine ⟨jn f n m a, e3, hj.1, fun i hi => ?_⟩
    rcases Nat.lt_succ_iff_lt_or_eq.1 hi with hi | rfl
    · exact (good_ord h hn).trans i m _ (by omega) hm hj.1 (hall i hi) hj.2.1
    · exact hj.2.2.1
theorem above_bottom (h6 : n ≤ 6) {w : World} {g : Nat} (hl : IsLat w g n (flR f n)) : Calls Try.prog 31 #[P g, .int .i64 (least (mT n (flR f n)) n)] w fun e w' => ∃ A' c', e = .returned (.slice A' n c') ∧ Below w.heap.size w w' := by
  obtain ⟨m, e, hm, hall⟩ := bots h hn n (Nat.le_refl _)
  rw [e]
  refine (lat_Above hl h6 m).mono ?_
  rintro e w' ⟨A', c', rfl, _, _, hb⟩
  exact ⟨A', c', by rw [pick_all (fun i hi => hall i hi)], hb⟩
theorem below_top (h6 : n ≤ 6) {w : World} {g : Nat} (hl : IsLat w g n (flR f n)) : Calls Try.prog 33 #[P g, .int .i64 (least (jT n (flR f n)) n)] w fun e w' => ∃ A' c', e = .returned (.slice A' n c') ∧ Below w.heap.size w w' := by
  obtain ⟨m, e, hm, hall⟩ := tops h hn n (Nat.le_refl _)
  rw [e]
  refine (lat_Below hl h6 m).mono ?_
  rintro e w' ⟨A', c', rfl, _, _, hb⟩
  exact ⟨A', c', by rw [pick_all (fun i hi => hall i hi)], hb⟩
end
/-- is one of the labels that count among them -/
theorem in_pick {T : Int → Bool} {n : Nat} (h6 : n ≤ 6) {l : List Int} (hl : pick T n = l) {A : Option Addr} {c : Nat} {w : World} (hC : Kd.C (Kd.int .i64) w A l.length l) (hc : l.length ≤ c) {j : Nat} (hj : j < n) {t : Bool} (ht : T j = t) :
    Calls Try.prog 34 #[.slice A l.length c, .int .i64 (j : Int)] w fun e w' => e = .returned (.bool t) ∧ Below w.heap.size w w' := by
  have hlen : l.length ≤ n := by rw [← hl]; exact pick_length T n
  obtain ⟨r, hr, hi⟩ := in_f l j (by omega) 100 (by omega)
  refine (weighlocklaw04_in.calls 100 A c l j r w hC hc hr).mono fun e w' h => ⟨?_, h.2.below⟩
  rw [h.1]
  have : r = t := by
    rw [← hl, mem_pick] at hi
    rw [Bool.eq_iff_iff, hi, ht]
    exact ⟨fun q => q.2.2, fun q => ⟨by omega, by omega, q⟩⟩
  rw [this]
set_option maxHeartbeats 8000000 in
set_option maxRecDepth 8000 in
theorem dual_core {A : Option Addr} {c n : Nat} (f : List (List Bool)) (hn : Aside0 (f.length = n)) (w : World) (hC : Kd.C (Kd.slice 4 Kd.bool) w A n f) (hc : n ≤ c) :
    Ok w w.heap.size w 7 #[.slice A n c] (.bool true) := by
  have HC := Aside0.mk hC
  obtain ⟨r, h40, HL⟩ := rlarge hn.out hC hc
  replace HL := Aside0.mk HL
  replace h40 := Aside0.mk h40
  clear hC
  go_enter Try.func7, Try.ntmps7
  go_wp2_with fail
  refine HL.out.mono ?_
  rintro e w1 ⟨rfl, hb⟩
  have HB := Aside0.mk hb
  clear hb HL
  cases r
  case true =>
    go_wp2_with fail
    refine (four_then HB.out).mono ?_
    rintro e w2 ⟨rfl, hb⟩
    go_wp2_with fail
    go_ret
    exact ⟨rfl, hb⟩
  replace h40 : n ≤ 40 := h40.out rfl
  obtain ⟨r, hw, HW⟩ := rwrong hn.out HC.out hc h40
  replace HW := Aside0.mk HW
  replace hw := Aside0.mk hw
  go_wp2_with fail
  refine (HW.out _ HB.out).mono ?_
  rintro e w2 ⟨rfl, hb⟩
  replace HB := Aside0.mk hb
  clear hb HW
  by_cases hr : r = 0
  case neg =>
    have hr2 : (r == 0) = false := by simpa using hr
    go_wp2_with fail
    refine (four_then HB.out).mono ?_
    rintro e w3 ⟨rfl, hb⟩
    go_wp2_with fail
    go_ret
    exact ⟨rfl, hb⟩
  subst hr
  have HG := Aside0.mk hw.out.good
  have h6 : n ≤ 6 := by have := HG.out.s.2.1; rw [hn.out] at this; exact this
  clear hw
  go_wp2_with fail
  refine (New_calls' f hn (Kd.C_below HC.out HB.out)).mono ?_
  rintro e w3 ⟨hnew, hb⟩
  obtain ⟨g, rfl, hlat⟩ := HG.out.new hnew
  rw [hn.out] at hlat
  have HL := Aside0.mk hlat
  replace HB := Aside0.mk (below_step HB.out hb)
  clear hb hlat hnew
  go_wp2_with fail
  go_loopw [24] (fun x wr => ∃ i : Nat, x = .int .i64 (i : Int) ∧ i ≤ n ∧ Aside0 (IsLat wr g n (flR f n)) ∧ Aside0 (Below w.heap.size w wr)) (fun x _ => n - (intOf x).toNat)
  case atStart => exact ⟨0, rfl, Nat.zero_le _, HL, HB⟩
  case round =>
    clear HL HB
    obtain ⟨i, rfl, hi, HL, HB⟩ := hrel
    by_cases hx : (i : Int) < n
    · go_wp2_with fail
      go_loopw [28] (fun x wr => ∃ j : Nat, x = .int .i64 (j : Int) ∧ j ≤ n ∧ Aside0 (IsLat wr g n (flR f n)) ∧ Aside0 (Below w.heap.size w wr)) (fun x _ => n - (intOf x).toNat)
      case atStart => exact ⟨0, rfl, Nat.zero_le _, HL, HB⟩
      case round =>
        clear HL HB
        obtain ⟨j, rfl, hj, HL, HB⟩ := hrel
        by_cases hy : (j : Int) < n
        · have hi' : i < n := by omega
          have hj' : j < n := by omega
          obtain ⟨ad, ad0, c0, eA, hx1, hc0, hx2⟩ := cells_at HG.out.s hn.out HC.out hi' hj'
          subst eA
          obtain ⟨t, ht⟩ : ∃ t, flowsF n (flR f n) i j = t := ⟨_, rfl⟩
          obtain ⟨s, hs⟩ : ∃ s, flowsF n (flR f n) j i = s := ⟨_, rfl⟩
          rw [ht] at hx2
          have HT := Aside0.mk ht
          have HS := Aside0.mk hs
          clear ht hs
          have KEEP : Aside0 (∀ W, Below w.heap.size w W → W.cell? (ad.add i) = some (.slice (some ad0) n c0) ∧ W.cell? (ad0.add j) = some (.bool t)) := ⟨fun W hW => ⟨(hW.cell (World.block_lt_of_cell? w _ hx1)).trans hx1, (hW.cell (World.block_lt_of_cell? w _ hx2)).trans hx2⟩⟩
          clear hx1 hx2
          go_upto_region 11 with fail
          have HLd := Aside0.mk (HL.out.later (below_drew (Below.refl _ _)))
          have HBd := Aside0.mk (below_drew HB.out)
          go_region_held3 (fun w' => w'.cell? (ad.add i) = some (.slice (some ad0) n c0) ∧ w'.cell? (ad0.add j) = some (.bool t))
            (first | exact KEEP.out _ k6.out | exact KEEP.out _ k5.out | exact KEEP.out _ k4.out | exact KEEP.out _ k3.out | exact KEEP.out _ k2.out | exact KEEP.out _ k1.out | exact KEEP.out _ HBd.out)
            (first
              | (go_at_call 34; refine (in_pick h6 q5.out C5.out z5 hj' HT.out).mono ?_; rintro e w' ⟨rfl, hb⟩; have k6 := Aside0.mk (below_step k5.out hb); have l6 := Aside0.mk (l5.out.later hb); clear hb)
              | (go_at_call 31; refine (lat_Above l4.out h6 i).mono ?_; rintro e w' ⟨A5, c5, rfl, z5, C5, hb⟩; have k5 := Aside0.mk (below_step k4.out hb); have l5 := Aside0.mk (l4.out.later hb); obtain ⟨p5, q5⟩ : ∃ l, pick (fun x => flowsF n (flR f n) i x) n = l := ⟨_, rfl⟩; rw [q5] at z5 C5 ⊢; replace C5 := Aside0.mk C5; replace q5 := Aside0.mk q5; clear hb)
              | (go_at_call 34; refine (in_pick h6 q3.out C3.out z3 hi' HS.out).mono ?_; rintro e w' ⟨rfl, hb⟩; have k4 := Aside0.mk (below_step k3.out hb); have l4 := Aside0.mk (l3.out.later hb); clear hb)
              | (go_at_call 31; refine (lat_Above l2.out h6 j).mono ?_; rintro e w' ⟨A3, c3, rfl, z3, C3, hb⟩; have k3 := Aside0.mk (below_step k2.out hb); have l3 := Aside0.mk (l2.out.later hb); obtain ⟨p3, q3⟩ : ∃ l, pick (fun x => flowsF n (flR f n) j x) n = l := ⟨_, rfl⟩; rw [q3] at z3 C3 ⊢; replace C3 := Aside0.mk C3; replace q3 := Aside0.mk q3; clear hb)
              | (go_at_call 34; refine (in_pick h6 q1.out C1.out z1 hj' HS.out).mono ?_; rintro e w' ⟨rfl, hb⟩; have k2 := Aside0.mk (below_step k1.out hb); have l2 := Aside0.mk (l1.out.later hb); clear hb)
              | (go_at_call 33; refine (lat_Below HLd.out h6 i).mono ?_; rintro e w' ⟨A1, c1, rfl, z1, C1, hb⟩; have k1 := Aside0.mk (below_step HBd.out hb); have l1 := Aside0.mk (HLd.out.later hb); obtain ⟨p1, q1⟩ : ∃ l, pick (fun x => flowsF n (flR f n) x i) n = l := ⟨_, rfl⟩; rw [q1] at z1 C1 ⊢; replace C1 := Aside0.mk C1; replace q1 := Aside0.mk q1; clear hb))
          go_wp2_with fail
          exact ⟨⟨j + 1, rfl, by omega, l6, k6⟩, by simp [intOf]; omega⟩
        · obtain rfl : n = j := by omega
          go_wp2_with fail
          exact ⟨⟨i + 1, rfl, by omega, HL, HB⟩, by simp [intOf]; omega⟩
    · obtain rfl : n = i := by omega
      go_wp2_with fail
      refine (okJ HB.out HL.out (lat_Bottom HL.out)).mono ?_
      clear HL HB
      have ab := fun W hW => above_bottom HG.out hn.out h6 (w := W) (g := g) hW
      have bt' := fun W hW => below_top HG.out hn.out h6 (w := W) (g := g) hW
      obtain ⟨bt, hbt⟩ : ∃ bt, least (mT n (flR f n)) n = bt := ⟨_, rfl⟩
      obtain ⟨tp, htp⟩ : ∃ tp, least (jT n (flR f n)) n = tp := ⟨_, rfl⟩
      rw [hbt] at ab ⊢
      rw [htp] at bt'
      replace ab := Aside0.mk ab
      replace bt' := Aside0.mk bt'
      have HTP := Aside0.mk htp
      clear hbt htp
      rintro e w4 ⟨rfl, HL, HB⟩
      go_wp2_with fail
      refine (ab.out _ HL.out).mono ?_
      rintro e w5 ⟨A5, c5, rfl, hb⟩
      replace HL := Aside0.mk (HL.out.later hb)
      replace HB := Aside0.mk (below_step HB.out hb)
      clear hb
      go_wp2_with fail
      refine (okJ HB.out HL.out (lat_Top HL.out)).mono ?_
      clear HL HB
      rw [HTP.out]
      rintro e w6 ⟨rfl, HL, HB⟩
      go_wp2_with fail
      refine (bt'.out _ HL.out).mono ?_
      rintro e w7 ⟨A7, c7, rfl, hb⟩
      replace HB := Aside0.mk (below_step HB.out hb)
      clear hb HL
      go_wp2_with fail
      refine (four_then HB.out).mono ?_
      rintro e w8 ⟨rfl, hb⟩
      go_wp2_with fail
      go_ret
      exact ⟨rfl, hb⟩
theorem dual_walk (a0 : Option Addr) (len0 cap0 : Nat) (z0 : List (List Bool)) (w : World) (w0 : z0.length = len0 ∧ len0 ≤ cap0 ∧ Kd.C (Kd.slice 4 Kd.bool) w a0 len0 z0) : Calls Try.prog 7 #[.slice a0 len0 cap0] w fun e w' => e = .returned (.bool true) ∧ Below w.heap.size w w' :=
  dual_core z0 ⟨w0.1⟩ w w0.2.2 w0.2.1
end Go.Proofs.Yteopponjfkeagaa.Lat
