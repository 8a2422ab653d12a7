import Derived.Test.YtgojaomldkgojaaCm13
namespace Go.Proofs.Ytgojaomldkgojaa.Cm
set_option linter.unusedVariables false
set_option linter.unusedSimpArgs false
open Go.RowKit Go.Maps Go.Proofs.YtgojaomldkgojaaW.PrintWords Go.Proofs.YtgojaomldkgojaaW.PrintLast Go.Proofs.YtgojaomldkgojaaW.PrintMore Go.Proofs.Ytgojaomldkgojaa.PCm Go.Proofs.Ytgojaomldkgojaa.Wire
theorem keep_sublist (dead : Int) (l : List Rc) : (keepF dead l).Sublist l := by
  induction l with
  | nil => exact List.Sublist.slnil
  | cons r l ih =>
    rw [keepF, keepL]
    split
    · exact ih.cons_cons r
    · exact ih.cons r
theorem keep_apart (dead : Int) (l : List Rc) : (keepF dead l).Pairwise (fun a b => kL b ≠ [] → kL a ≠ kL b) := by
  induction l with
  | nil => exact List.Pairwise.nil
  | cons r l ih =>
    rw [keepF, keepL]
    split
    · rename_i hc
      refine List.Pairwise.cons (fun b hb hne e => ?_) ih
      rcases hc with h | ⟨h, _⟩
      · exact hne (e ▸ h)
      · have h9 := List.all_eq_true.1 h b (keepF_mem dead l b hb)
        simp [e] at h9
    · exact ih
theorem bytes_eq {a b : ByteArray} (h : a.toList = b.toList) : a = b := by
  rw [← toList_data, ← toList_data] at h
  cases a
  cases b
  congr 1
  exact Array.ext' h
theorem rec_eq (a b : Rc) (h : (a.f0 == b.f0 && (a.f1 == b.f1 && (a.f2.toList == b.f2.toList && (a.f3.toList == b.f3.toList && (a.f4 == b.f4 && (a.f5 == b.f5 && (a.f6 == b.f6 && (a.f7 == b.f7)))))))) = true) : a = b := by
  simp only [Bool.and_eq_true, beq_iff_eq] at h
  obtain ⟨h0, h1, h2, h3, h4, h5, h6, h7⟩ := h
  cases a
  cases b
  simp only at h0 h1 h2 h3 h4 h5 h6 h7
  obtain rfl := h0
  obtain rfl := h1
  obtain rfl := bytes_eq h2
  obtain rfl := bytes_eq h3
  obtain rfl := h4
  obtain rfl := h5
  obtain rfl := h6
  obtain rfl := h7
  rfl
theorem rec_neq (a b : Rc) (h : a ≠ b) : (a.f0 == b.f0 && (a.f1 == b.f1 && (a.f2.toList == b.f2.toList && (a.f3.toList == b.f3.toList && (a.f4 == b.f4 && (a.f5 == b.f5 && (a.f6 == b.f6 && (a.f7 == b.f7)))))))) = false := by
  rw [Bool.eq_false_iff]
  exact fun h2 => h (rec_eq a b h2)
theorem sub_skip {r y : Rc} {a b : List Rc} (h : (r :: a).Sublist (y :: b)) (hne : y ≠ r) : (r :: a).Sublist b := by
  cases h with
  | cons _ h => exact h
  | cons_cons _ h => exact absurd rfl hne
theorem sub_tail {r : Rc} {a b : List Rc} (h : (r :: a).Sublist b) : a.Sublist b := (List.sublist_cons_self r a).trans h
theorem leq_op (t : TypeId) (a b : ByteArray) : Go.binOp .leq t (.string a) (.string b) = pure (.bool (!decide (b.toList < a.toList))) := by
  have h : Go.binOp .leq t (.string a) (.string b) = pure (.bool (Op.bytesLess a.toList b.toList || a.toList == b.toList)) := by simp [Go.binOp, Op.stringOp]
  rw [h, gtr_eq]
theorem viewR_all (l : List Rc) : (viewR l).Pairwise (fun a b => kL a < kL b) ∧ ∀ z ∈ viewR l, kL z ≠ [] ∧ z.f4 = false := by
  have h1 := view_law kL ltK lt_trans' lt_tot (liveL kL [] (·.f4) l) (live_nodup kL [] (·.f4) l)
  refine ⟨h1.1.imp (fun h => of_decide_eq_true h), fun z hz => ?_⟩
  have h2 := (live_mem kL [] (·.f4) l z).1 ((h1.2 z).1 hz)
  exact ⟨h2.1, h2.2.1⟩
section
attribute [local go_sem high] eqA32 leq_op
set_option maxHeartbeats 32000000 in
set_option maxRecDepth 100000 in
theorem order_calls (l : List Rc) (A : Option Addr) (n k : Nat) (dead : Int) (w : World) (hp : Rs k w A n l) :
    Calls Try.prog 5 #[.slice A n k, .int .i64 dead] w fun e w' => e = .returned (.bool true) ∧ Below w.heap.size w w' := by
  have hund : ∀ b, some undef = some (Value.bool b) → False := fun b h => by simp [undef] at h
  obtain ⟨rfl, hnk, hC⟩ := hp
  have HC := Aside0.mk hC
  have hlg := Aside0.mk (large_calls A k l w hC)
  clear hC
  cases hbig : recsBig l with
  | true =>
    rw [hbig] at hlg
    go_enter Try.func5, Try.ntmps5
    go_wp2_with fail
    refine hlg.out.mono ?_
    rintro e w1 ⟨rfl, hb⟩
    have HB := Aside0.mk hb
    clear hb hlg
    go_wp2_with fail
    refine (four_calls w1).mono ?_
    rintro e w2 ⟨rfl, hb⟩
    have HB2 := Aside0.mk (below_step HB.out hb)
    clear hb HB
    go_wp2_with fail
    go_ret
    exact ⟨rfl, HB2.out⟩
  | false =>
    rw [hbig] at hlg
    obtain ⟨hl, hz⟩ := big_no hbig
    have HZ := Aside0.mk hz
    have HS := Aside0.mk (keep_sublist dead l)
    have HP := Aside0.mk (keep_apart dead l)
    have HV := Aside0.mk (viewR_all l)
    have hlen := keep_len dead l
    clear hz hbig
    obtain ⟨kf, hkf⟩ : ∃ kf, keepF dead l = kf := ⟨_, rfl⟩
    obtain ⟨vf, hvf⟩ : ∃ vf, viewR l = vf := ⟨_, rfl⟩
    rw [hkf] at hlen HS HP
    rw [hvf] at HV
    have HKF := Aside0.mk hkf
    have HVF := Aside0.mk hvf
    clear hkf hvf
    go_enter Try.func5, Try.ntmps5
    go_wp2_with fail
    refine hlg.out.mono ?_
    rintro e w1 ⟨rfl, hb⟩
    have HB := Aside0.mk hb
    have n_HC := Aside0.mk (Kd.C_below HC.out hb)
    clear HC hb hlg
    have HC := n_HC
    clear n_HC
    go_wp2_with fail
    go_loopw [21] (fun iv wr => ∃ i : Nat, iv = .int .i64 i ∧ i ≤ l.length ∧ Aside0 (Below w1.heap.size w1 wr)) (fun iv _ => l.length - (intOf iv).toNat)
    case atStart => exact ⟨0, rfl, Nat.zero_le _, ⟨Below.refl _ _⟩⟩
    case round =>
      obtain ⟨i, rfl, hil, H1⟩ := hrel
      by_cases hlt : i < l.length
      · obtain ⟨ad, hAd, hcs⟩ := at_rec HC.out i hlt hlt
        have hcs' := Aside0.mk (cells_below hcs H1.out)
        clear hcs
        obtain ⟨pr, hpr⟩ : ∃ pr, l[i] = pr := ⟨_, rfl⟩
        simp only [hpr] at hcs'
        clear hpr
        obtain ⟨x0, x1, x2, x3, x4, x5, x6, x7⟩ := pr
        simp only [Rc.cs] at hcs'
        rcases i with _ | j
        · subst hAd
          go_wp2_with (first
            | ((with_reducible refine gate_dst (N := 25) rfl ?_); refine load_evm' (N := 25) rfl rfl rfl (cs := #[.int .i64 x0, .int .i64 x1, .string x2, .string x3, .bool x4, .int .i64 x5, .int .i64 x6, .int .i64 x7]) rfl hcs'.out Try.underlying32 rfl (by kernel_rfl) ?_)
            | ((with_reducible refine gate_dst (N := 6) rfl ?_); refine box_event rfl (N := 6) rfl (cs := #[.int .i64 0, .int .i64 0, .string ⟨#[]⟩, .string ⟨#[]⟩, .bool false, .int .i64 0, .int .i64 0, .int .i64 0]) (t := 32) ?hr ?_; (case hr => first | (go_simp; done) | (go_simp; rfl)); intro g6 hg6 v1 hbx hbl; have n_H := Aside0.mk (below_step H1.out hbl); have G6 := Aside0.mk (show w1.heap.size ≤ g6 by rw [hg6]; exact H1.out.size); have Y := Aside0.mk hbx; clear H1 hbx hbl hg6; have H1 := n_H; clear n_H)
            | ((with_reducible refine gate_store (t := 32) (p := 6) rfl ?_); refine store_ev rfl rfl rfl (cells := #[.int .i64 x0, .int .i64 x1, .string x2, .string x3, .bool x4, .int .i64 x5, .int .i64 x6, .int .i64 x7]) rfl rfl Y.out (by kernel_rfl) rfl (by kernel_rfl) ?_; intro v2 hbx hgr; have n_H := Aside0.mk (below_put H1.out G6.out hgr H1.out.size); have n_Y := Aside0.mk hbx; clear H1 Y hbx hgr; have H1 := n_H; have Y := n_Y; clear n_H n_Y; have y0 : v2.cell? ⟨g6, 0, none⟩ = some (.int .i64 x0) := (blk_cell Y.out 0).trans rfl))
          go_quiet (fail)
          go_wp2_with fail
          go_roundw
          case rel => exact ⟨1, by go_num, by omega, ⟨pw_below_drewN H1.out _⟩⟩
          case measure => simp [intOf]; omega
        · obtain ⟨ad2, hAd2, hcs2⟩ := at_rec HC.out j (by omega) (by omega)
          have had : ad = ad2 := by rw [hAd] at hAd2; exact Option.some.inj hAd2
          subst had
          have hk0 : w1.cell? ((ad.add (j * 8)).add 0) = some (.int .i64 l[j].f0) := hcs2 0 _ rfl
          obtain ⟨q0, hq0⟩ : ∃ q0, l[j].f0 = q0 := ⟨_, rfl⟩
          rw [hq0] at hk0
          have HK0 := Aside0.mk (show w1.cell? (ad.add (j * 8)) = some (.int .i64 q0) from hk0)
          have hsub : wrap64 (((j + 1 : Nat) : Int) - 1) = (j : Int) := by unfold wrap64; omega
          have hjl : j < l.length := by omega
          subst hAd
          clear hcs2 hk0 hq0 hAd2
          go_wp2_with (first
            | ((with_reducible refine gate_dst (N := 25) rfl ?_); refine load_evm' (N := 25) rfl rfl rfl (cs := #[.int .i64 x0, .int .i64 x1, .string x2, .string x3, .bool x4, .int .i64 x5, .int .i64 x6, .int .i64 x7]) rfl hcs'.out Try.underlying32 rfl (by kernel_rfl) ?_)
            | ((with_reducible refine gate_dst (N := 6) rfl ?_); refine box_event rfl (N := 6) rfl (cs := #[.int .i64 0, .int .i64 0, .string ⟨#[]⟩, .string ⟨#[]⟩, .bool false, .int .i64 0, .int .i64 0, .int .i64 0]) (t := 32) ?hr ?_; (case hr => first | (go_simp; done) | (go_simp; rfl)); intro g6 hg6 v1 hbx hbl; have n_H := Aside0.mk (below_step H1.out hbl); have G6 := Aside0.mk (show w1.heap.size ≤ g6 by rw [hg6]; exact H1.out.size); have Y := Aside0.mk hbx; clear H1 hbx hbl hg6; have H1 := n_H; clear n_H)
            | ((with_reducible refine gate_store (t := 32) (p := 6) rfl ?_); refine store_ev rfl rfl rfl (cells := #[.int .i64 x0, .int .i64 x1, .string x2, .string x3, .bool x4, .int .i64 x5, .int .i64 x6, .int .i64 x7]) rfl rfl Y.out (by kernel_rfl) rfl (by kernel_rfl) ?_; intro v2 hbx hgr; have n_H := Aside0.mk (below_put H1.out G6.out hgr H1.out.size); have n_Y := Aside0.mk hbx; clear H1 Y hbx hgr; have H1 := n_H; have Y := n_Y; clear n_H n_Y; have k0 : v2.cell? (ad.add (j * 8)) = some (.int .i64 q0) := (H1.out.cell (World.block_lt_of_cell? w1 _ HK0.out)).trans HK0.out; have y0 : v2.cell? ⟨g6, 0, none⟩ = some (.int .i64 x0) := (blk_cell Y.out 0).trans rfl))
          by_cases hx : x0 ≤ q0
          · have hd : decide (x0 ≤ q0) = true := decide_eq_true hx
            go_quiet (fail)
            go_wp2_with fail
            refine (four_calls _).mono ?_
            rintro e w9 ⟨rfl, hb⟩
            have HB2 := Aside0.mk (below_step (below_step HB.out (pw_below_drewN H1.out _)) hb)
            clear hb
            go_wp2_with fail
            go_ret
            exact ⟨rfl, HB2.out⟩
          · have hd : decide (x0 ≤ q0) = false := decide_eq_false hx
            go_quiet (fail)
            go_wp2_with fail
            go_roundw
            case rel => exact ⟨j + 2, by go_num, by omega, ⟨pw_below_drewN H1.out _⟩⟩
            case measure => simp [intOf]; omega
      · obtain rfl : i = l.length := by omega
        go_wp2_with fail
        have n_HC := Aside0.mk (Kd.C_below HC.out H1.out)
        have n_HB := Aside0.mk (below_step HB.out H1.out)
        clear HC HB H1
        have HC := n_HC
        have HB := n_HB
        clear n_HC n_HB
        refine (keep_calls A k l dead wr HC.out (by omega) HZ.out).mono ?_
        rintro e w2 ⟨u1, rfl, hR, hb⟩
        rw [HKF.out] at hR
        obtain ⟨A1, c1, hu1, hc1, hC1⟩ := Kd.R_reads hR
        subst hu1
        have n_HC := Aside0.mk (Kd.C_below HC.out hb)
        have n_HB := Aside0.mk (below_step HB.out hb)
        clear HC HB hR hb
        have HC := n_HC
        have HB := n_HB
        clear n_HC n_HB
        have HK := Aside0.mk hC1
        clear hC1
        obtain ⟨i06, hi06, _, hsz6, _⟩ := info_parts info32
        go_wp2_with fail
        go_loopw [46, 8] (fun iv av wq => ∃ (i t : Nat), iv = .int .i64 i ∧ av = .int .i64 t ∧ i ≤ kf.length ∧ t ≤ l.length ∧ Aside0 ((kf.drop i).Sublist (l.drop t)) ∧ Aside0 (Below w2.heap.size w2 wq)) (fun iv _ _ => kf.length - (intOf iv).toNat)
        case atStart => exact ⟨0, 0, rfl, rfl, Nat.zero_le _, Nat.zero_le _, ⟨HS.out⟩, ⟨Below.refl _ _⟩⟩
        case round =>
          obtain ⟨i, t0, rfl, rfl, hil, htl0, HU, H2⟩ := hrel
          by_cases hlt : i < kf.length
          · obtain ⟨ad, hAd, hcs⟩ := at_rec HK.out i hlt hlt
            have hcs' := Aside0.mk (cells_below hcs H2.out)
            have hdr : kf.drop i = kf[i] :: kf.drop (i + 1) := List.drop_eq_getElem_cons hlt
            have HPI : Aside0 (∀ (j : Nat) (hj : j < i), kL kf[i] ≠ [] → kL (kf[j]'(by omega)) ≠ kL kf[i]) := ⟨fun j hj h => List.pairwise_iff_getElem.1 HP.out j i (by omega) hlt hj h⟩
            have hcut := cut_to (P := Try.prog) 22 32 .i64 Try.underlying22 hi06 A1 kf.length c1 (i : Int) (by omega) (by omega) hc1
            rw [Int.toNat_natCast] at hcut
            have HT := Aside0.mk (Kd.C_take (m := i) HK.out hil)
            have htk : (kf.take i).length = i := by rw [List.length_take]; omega
            have hgt : ∀ (j : Nat) (hj : j < i), (kf.take i)[j]'(by omega) = kf[j]'(by omega) := fun j hj => List.getElem_take
            rw [hdr] at HU
            subst hAd
            clear hcs hdr
            obtain ⟨pr, hpr⟩ : ∃ pr, kf[i] = pr := ⟨_, rfl⟩
            simp only [hpr] at hcs' HPI HU
            clear hpr
            obtain ⟨rest, hrest⟩ : ∃ rest, kf.drop (i + 1) = rest := ⟨_, rfl⟩
            rw [hrest] at HU
            have HRT := Aside0.mk hrest
            clear hrest
            obtain ⟨x0, x1, x2, x3, x4, x5, x6, x7⟩ := pr
            simp only [Rc.cs] at hcs'
            go_wp2_with (first
              | ((with_reducible refine gate_dst (N := 50) rfl ?_); refine load_evm' (N := 50) rfl rfl rfl (cs := #[.int .i64 x0, .int .i64 x1, .string x2, .string x3, .bool x4, .int .i64 x5, .int .i64 x6, .int .i64 x7]) rfl hcs'.out Try.underlying32 rfl (by kernel_rfl) ?_)
              | ((with_reducible refine gate_dst (N := 10) rfl ?_); refine box_event rfl (N := 10) rfl (cs := #[.int .i64 0, .int .i64 0, .string ⟨#[]⟩, .string ⟨#[]⟩, .bool false, .int .i64 0, .int .i64 0, .int .i64 0]) (t := 32) ?hr ?_; (case hr => first | (go_simp; done) | (go_simp; rfl)); intro g10 hg10 v1 hbx hbl; have n_H := Aside0.mk (below_step H2.out hbl); have G10 := Aside0.mk (show w2.heap.size ≤ g10 by rw [hg10]; exact H2.out.size); have Y := Aside0.mk hbx; clear H2 hbx hbl hg10; have H2 := n_H; clear n_H)
              | ((with_reducible refine gate_store (t := 32) (p := 10) rfl ?_); refine store_ev rfl rfl rfl (cells := #[.int .i64 x0, .int .i64 x1, .string x2, .string x3, .bool x4, .int .i64 x5, .int .i64 x6, .int .i64 x7]) rfl rfl Y.out (by kernel_rfl) rfl (by kernel_rfl) ?_; intro v2 hbx hgr; have n_H := Aside0.mk (below_put H2.out G10.out hgr H2.out.size); have n_Y := Aside0.mk hbx; clear H2 Y hbx hgr; have H2 := n_H; have Y := n_Y; clear n_H n_Y))
            have HT2 : Aside0 (Below w2.heap.size w2 v2) := H2
            go_loopw [8] (fun av wz => ∃ (t : Nat), av = .int .i64 t ∧ t ≤ l.length ∧ Aside0 ((⟨x0, x1, x2, x3, x4, x5, x6, x7⟩ :: rest : List Rc).Sublist (l.drop t)) ∧ Aside0 (wz.heap[g10]? = some (.cells #[.int .i64 x0, .int .i64 x1, .string x2, .string x3, .bool x4, .int .i64 x5, .int .i64 x6, .int .i64 x7] 32 (0, 0))) ∧ Aside0 (Below w2.heap.size w2 wz)) (fun av _ => l.length - (intOf av).toNat)
            case atStart => exact ⟨t0, rfl, htl0, HU, Y, H2⟩
            case round =>
              clear Y H2 HT2 HU
              obtain ⟨t, rfl, htl, HU, Y, H2⟩ := hrel
              have htt : t < l.length := by
                rcases Nat.lt_or_ge t l.length with h | h
                · exact h
                · have h9 := HU.out
                  rw [List.drop_eq_nil_of_le h] at h9
                  cases h9
              obtain ⟨ad2, hAd2, hcs2⟩ := at_rec HC.out t htt htt
              have hY2 := Aside0.mk (cells_below hcs2 H2.out)
              have hdt : l.drop t = l[t] :: l.drop (t + 1) := List.drop_eq_getElem_cons htt
              have HD := Aside0.mk hdt
              obtain ⟨pq, hpq⟩ : ∃ pq, l[t] = pq := ⟨_, rfl⟩
              simp only [hpq] at hY2 HD
              clear hpq hcs2 hdt
              subst hAd2
              by_cases he : pq = ⟨x0, x1, x2, x3, x4, x5, x6, x7⟩
              · subst he
                simp only [Rc.cs] at hY2
                go_wp2_with fail
                refine start_ (n := 12) (S := fun w' => w'.heap[g10]? = some (.cells #[.int .i64 x0, .int .i64 x1, .string x2, .string x3, .bool x4, .int .i64 x5, .int .i64 x6, .int .i64 x7] 32 (0, 0)) ∧ (∀ (j : Nat) (u : Value), (#[.int .i64 x0, .int .i64 x1, .string x2, .string x3, .bool x4, .int .i64 x5, .int .i64 x6, .int .i64 x7] : Array Value)[j]? = some u → w'.cell? ((ad2.add (t * 8)).add j) = some u)) (ds := []) #[false, false, false, false, false, false, false, false, false, false, false, false] (by kernel_rfl) rfl rfl ⟨Y.out, hY2.out⟩ (fun _ => ?_)
                have n_H2 := Aside0.mk (below_drew1 H2.out)
                have n_Y := Aside0.mk (show wr.drew.heap[g10]? = some (.cells #[.int .i64 x0, .int .i64 x1, .string x2, .string x3, .bool x4, .int .i64 x5, .int .i64 x6, .int .i64 x7] 32 (0, 0)) from Y.out)
                have n_hY2 := Aside0.mk (show ∀ (j : Nat) (u : Value), (#[.int .i64 x0, .int .i64 x1, .string x2, .string x3, .bool x4, .int .i64 x5, .int .i64 x6, .int .i64 x7] : Array Value)[j]? = some u → wr.drew.cell? ((ad2.add (t * 8)).add j) = some u from hY2.out)
                clear H2 Y hY2
                have H2 := n_H2
                have Y := n_Y
                have hY2 := n_hY2
                clear n_H2 n_Y n_hY2
                generalize wr.drew = V at *
                refine pure_ (i := 0) (N := some 51) (v := ?_) (a' := ?_) #[true, false, false, false, false, false, false, false, false, false, false, false] rfl rfl (by kernel_rfl) (fun _ _ _ h => h) (Or.inl ⟨by rfl, ?_⟩) ?_ ?_
                rotate_left
                · intro w'
                  go_simp
                  with_reducible rfl
                rotate_left
                · simp only [Act.put, List.setIfInBounds_toArray, List.set_cons_zero, List.set_cons_succ]
                  rfl
                refine pure_ (i := 1) (N := some 52) (v := ?_) (a' := ?_) #[true, true, false, false, false, false, false, false, false, false, false, false] rfl rfl (by kernel_rfl) (fun _ _ _ h => h) (Or.inl ⟨by rfl, ?_⟩) ?_ ?_
                rotate_left
                · intro w'
                  go_simp
                  with_reducible rfl
                rotate_left
                · simp only [Act.put, List.setIfInBounds_toArray, List.set_cons_zero, List.set_cons_succ]
                  rfl
                refine pure_ (i := 2) (N := some 53) (v := ?_) (a' := ?_) #[true, true, true, false, false, false, false, false, false, false, false, false] rfl rfl (by kernel_rfl) (fun _ _ _ h => h) (Or.inl ⟨by rfl, ?_⟩) ?_ ?_
                rotate_left
                · intro w'
                  go_simp
                  with_reducible rfl
                rotate_left
                · simp only [Act.put, List.setIfInBounds_toArray, List.set_cons_zero, List.set_cons_succ]
                  rfl
                refine pure_ (i := 3) (N := some 54) (v := ?_) (a' := ?_) #[true, true, true, true, false, false, false, false, false, false, false, false] rfl rfl (by kernel_rfl) (fun _ _ _ h => h) (Or.inl ⟨by rfl, ?_⟩) ?_ ?_
                rotate_left
                · intro w'
                  go_simp
                  with_reducible rfl
                rotate_left
                · simp only [Act.put, List.setIfInBounds_toArray, List.set_cons_zero, List.set_cons_succ]
                  rfl
                refine pure_ (i := 4) (N := some 55) (v := ?_) (a' := ?_) #[true, true, true, true, true, false, false, false, false, false, false, false] rfl rfl (by kernel_rfl) (fun _ _ _ h => h) (Or.inl ⟨by rfl, ?_⟩) ?_ ?_
                rotate_left
                · intro w'
                  go_simp
                  with_reducible rfl
                rotate_left
                · simp only [Act.put, List.setIfInBounds_toArray, List.set_cons_zero, List.set_cons_succ]
                  rfl
                refine pure_ (i := 5) (N := some 56) (v := ?_) (a' := ?_) #[true, true, true, true, true, true, false, false, false, false, false, false] rfl rfl (by kernel_rfl) (fun _ _ _ h => h) (Or.inl ⟨by rfl, ?_⟩) ?_ ?_
                rotate_left
                · intro w'
                  go_simp
                  with_reducible rfl
                rotate_left
                · simp only [Act.put, List.setIfInBounds_toArray, List.set_cons_zero, List.set_cons_succ]
                  rfl
                refine pure_ (i := 6) (N := some 57) (v := ?_) (a' := ?_) #[true, true, true, true, true, true, true, false, false, false, false, false] rfl rfl (by kernel_rfl) (fun _ _ _ h => h) (Or.inl ⟨by rfl, ?_⟩) ?_ ?_
                rotate_left
                · intro w'
                  go_simp
                  with_reducible rfl
                rotate_left
                · simp only [Act.put, List.setIfInBounds_toArray, List.set_cons_zero, List.set_cons_succ]
                  rfl
                refine pure_ (i := 7) (N := some 58) (v := ?_) (a' := ?_) #[true, true, true, true, true, true, true, true, false, false, false, false] rfl rfl (by kernel_rfl) (fun _ _ _ h => h) (Or.inl ⟨by rfl, ?_⟩) ?_ ?_
                rotate_left
                · intro w'
                  go_simp
                  with_reducible rfl
                rotate_left
                · simp only [Act.put, List.setIfInBounds_toArray, List.set_cons_zero, List.set_cons_succ]
                  rfl
                refine take_ (i := 8) (N := some 59) (v := .agg #[.int .i64 x0, .int .i64 x1, .string x2, .string x3, .bool x4, .int .i64 x5, .int .i64 x6, .int .i64 x7]) (a' := ?_) #[true, true, true, true, true, true, true, true, true, false, false, false] rfl rfl (by kernel_rfl) (fun _ _ _ h => h) (Or.inl ⟨by rfl, fun w' hS => loadm_run' (p := 58) rfl rfl hS.2 Try.underlying32 rfl (by kernel_rfl)⟩) ⟨Y.out, hY2.out⟩ ?_ ?_
                rotate_left
                · simp only [Act.put, List.setIfInBounds_toArray, List.set_cons_zero, List.set_cons_succ]
                  rfl
                refine take_ (i := 9) (N := some 60) (v := .agg #[.int .i64 x0, .int .i64 x1, .string x2, .string x3, .bool x4, .int .i64 x5, .int .i64 x6, .int .i64 x7]) (a' := ?_) #[true, true, true, true, true, true, true, true, true, true, false, false] rfl rfl (by kernel_rfl) (fun _ _ _ h => h) (Or.inl ⟨by rfl, fun w' hS => load_run' (p := 10) rfl rfl hS.1 Try.underlying32 rfl (by kernel_rfl)⟩) ⟨Y.out, hY2.out⟩ ?_ ?_
                rotate_left
                · simp only [Act.put, List.setIfInBounds_toArray, List.set_cons_zero, List.set_cons_succ]
                  rfl
                refine pure_ (i := 10) (N := some 61) (v := ?_) (a' := ?_) #[true, true, true, true, true, true, true, true, true, true, true, false] rfl rfl (by kernel_rfl) (fun _ _ _ h => h) (Or.inl ⟨by rfl, ?_⟩) ?_ ?_
                rotate_left
                · intro w'
                  go_simp
                  with_reducible rfl
                rotate_left
                · simp only [Act.put, List.setIfInBounds_toArray, List.set_cons_zero, List.set_cons_succ]
                  rfl
                refine pure_ (i := 11) (N := some 62) (v := ?_) (a' := ?_) #[true, true, true, true, true, true, true, true, true, true, true, true] rfl rfl (by kernel_rfl) (fun _ _ _ h => h) (Or.inl ⟨by rfl, ?_⟩) ?_ ?_
                rotate_left
                · intro w'
                  go_simp
                  with_reducible rfl
                rotate_left
                · simp only [Act.put, List.setIfInBounds_toArray, List.set_cons_zero, List.set_cons_succ]
                  rfl
                refine done_ (by kernel_rfl) ?_
                clear hY2 HD
                go_wp2_with fail
                go_loopw [73] (fun jv wz => ∃ (j : Nat), jv = .int .i64 j ∧ j ≤ i ∧ Aside0 (wz.heap[g10]? = some (.cells #[.int .i64 x0, .int .i64 x1, .string x2, .string x3, .bool x4, .int .i64 x5, .int .i64 x6, .int .i64 x7] 32 (0, 0))) ∧ Aside0 (Below w2.heap.size w2 wz)) (fun jv _ => i - (intOf jv).toNat)
                case atStart => exact ⟨0, rfl, Nat.zero_le _, Y, H2⟩
                case round =>
                  clear Y H2
                  obtain ⟨j, rfl, hji, Z, H2⟩ := hrel
                  by_cases hjt : j < i
                  · obtain ⟨ad3, hAd3, hcs3⟩ := at_rec (xs := kf.take i) (n := (kf.take i).length) HT.out j (by omega) (by omega)
                    rw [hgt j hjt] at hcs3
                    have hZ3 := Aside0.mk (cells_below hcs3 H2.out)
                    have hne := HPI.out j hjt
                    obtain ⟨pz, hpz⟩ : ∃ pz, kf[j]'(by omega) = pz := ⟨_, rfl⟩
                    simp only [hpz] at hZ3 hne
                    clear hpz hcs3
                    obtain rfl := Option.some.inj hAd3
                    obtain ⟨z0, z1, z2, z3, z4, z5, z6, z7⟩ := pz
                    simp only [Rc.cs, kL] at hZ3 hne
                    by_cases he : x2.toList = []
                    · have he2 : x2.toList.isEmpty = true := by rw [he]; rfl
                      go_wp2_with (first
                        | ((with_reducible refine gate_dst (N := 76) rfl ?_); refine load_evm' (N := 76) rfl rfl rfl (cs := #[.int .i64 z0, .int .i64 z1, .string z2, .string z3, .bool z4, .int .i64 z5, .int .i64 z6, .int .i64 z7]) rfl hZ3.out Try.underlying32 rfl (by kernel_rfl) ?_)
                        | ((with_reducible refine gate_dst (N := 12) rfl ?_); refine box_event rfl (N := 12) rfl (cs := #[.int .i64 0, .int .i64 0, .string ⟨#[]⟩, .string ⟨#[]⟩, .bool false, .int .i64 0, .int .i64 0, .int .i64 0]) (t := 32) ?hr ?_; (case hr => first | (go_simp; done) | (go_simp; rfl)); intro g12 hg12 v3 hbx hbl; have n_H := Aside0.mk (below_step H2.out hbl); have n_Z := Aside0.mk (blk_below Z.out hbl); have G12 := Aside0.mk (show w2.heap.size ≤ g12 by rw [hg12]; exact H2.out.size); have N12 := Aside0.mk (show g10 ≠ g12 by rw [hg12]; exact Nat.ne_of_lt (Array.getElem?_eq_some_iff.1 Z.out).1); have Y := Aside0.mk hbx; clear H2 Z hbx hbl hg12; have H2 := n_H; have Z := n_Z; clear n_H n_Z)
                        | ((with_reducible refine gate_store (t := 32) (p := 12) rfl ?_); refine store_ev rfl rfl rfl (cells := #[.int .i64 z0, .int .i64 z1, .string z2, .string z3, .bool z4, .int .i64 z5, .int .i64 z6, .int .i64 z7]) rfl rfl Y.out (by kernel_rfl) rfl (by kernel_rfl) ?_; intro v4 hbx hgr; have n_H := Aside0.mk (below_put H2.out G12.out hgr H2.out.size); have n_Z := Aside0.mk (blk_step Z.out hgr N12.out); have n_Y := Aside0.mk hbx; clear H2 Y Z hbx hgr; have H2 := n_H; have Y := n_Y; have Z := n_Z; clear n_H n_Y n_Z; have yk : v4.cell? ⟨g12, 2, none⟩ = some (.string z2) := (blk_cell Y.out 2).trans rfl; have xk : v4.cell? ⟨g10, 2, none⟩ = some (.string x2) := (blk_cell Z.out 2).trans rfl))
                      go_roundw
                      case rel => first | exact ⟨j + 1, by go_num, by omega, Z, H2⟩ | exact ⟨_, _, _, ⟨j + 1, rfl, by omega⟩, rfl, rfl, by go_num⟩
                      case measure => simp [intOf]; omega
                    · have he2 : x2.toList.isEmpty = false := by rw [Bool.eq_false_iff]; exact fun h => he (List.isEmpty_iff.1 h)
                      have hq : (z2.toList == x2.toList) = false := beq_eq_false_iff_ne.2 (hne he)
                      go_wp2_with (first
                        | ((with_reducible refine gate_dst (N := 76) rfl ?_); refine load_evm' (N := 76) rfl rfl rfl (cs := #[.int .i64 z0, .int .i64 z1, .string z2, .string z3, .bool z4, .int .i64 z5, .int .i64 z6, .int .i64 z7]) rfl hZ3.out Try.underlying32 rfl (by kernel_rfl) ?_)
                        | ((with_reducible refine gate_dst (N := 12) rfl ?_); refine box_event rfl (N := 12) rfl (cs := #[.int .i64 0, .int .i64 0, .string ⟨#[]⟩, .string ⟨#[]⟩, .bool false, .int .i64 0, .int .i64 0, .int .i64 0]) (t := 32) ?hr ?_; (case hr => first | (go_simp; done) | (go_simp; rfl)); intro g12 hg12 v3 hbx hbl; have n_H := Aside0.mk (below_step H2.out hbl); have n_Z := Aside0.mk (blk_below Z.out hbl); have G12 := Aside0.mk (show w2.heap.size ≤ g12 by rw [hg12]; exact H2.out.size); have N12 := Aside0.mk (show g10 ≠ g12 by rw [hg12]; exact Nat.ne_of_lt (Array.getElem?_eq_some_iff.1 Z.out).1); have Y := Aside0.mk hbx; clear H2 Z hbx hbl hg12; have H2 := n_H; have Z := n_Z; clear n_H n_Z)
                        | ((with_reducible refine gate_store (t := 32) (p := 12) rfl ?_); refine store_ev rfl rfl rfl (cells := #[.int .i64 z0, .int .i64 z1, .string z2, .string z3, .bool z4, .int .i64 z5, .int .i64 z6, .int .i64 z7]) rfl rfl Y.out (by kernel_rfl) rfl (by kernel_rfl) ?_; intro v4 hbx hgr; have n_H := Aside0.mk (below_put H2.out G12.out hgr H2.out.size); have n_Z := Aside0.mk (blk_step Z.out hgr N12.out); have n_Y := Aside0.mk hbx; clear H2 Y Z hbx hgr; have H2 := n_H; have Y := n_Y; have Z := n_Z; clear n_H n_Y n_Z; have yk : v4.cell? ⟨g12, 2, none⟩ = some (.string z2) := (blk_cell Y.out 2).trans rfl; have xk : v4.cell? ⟨g10, 2, none⟩ = some (.string x2) := (blk_cell Z.out 2).trans rfl))
                      go_roundw
                      case rel => first | exact ⟨j + 1, by go_num, by omega, Z, H2⟩ | exact ⟨_, _, _, ⟨j + 1, rfl, by omega⟩, rfl, rfl, by go_num⟩
                      case measure => simp [intOf]; omega
                  · obtain rfl : j = i := by omega
                    go_wp2_with fail
                    go_roundw
                    case rel => exact ⟨j + 1, t, by go_num, rfl, by omega, by omega, ⟨by rw [HRT.out]; exact sub_tail HU.out⟩, H2⟩
                    case measure => simp [intOf]; omega
              · have hbq := rec_neq pq ⟨x0, x1, x2, x3, x4, x5, x6, x7⟩ he
                have HNE := Aside0.mk he
                clear he
                obtain ⟨y0, y1, y2, y3, y4, y5, y6, y7⟩ := pq
                simp only [Rc.cs] at hY2
                simp only at hbq
                go_wp2_with fail
                refine start_ (n := 12) (S := fun w' => w'.heap[g10]? = some (.cells #[.int .i64 x0, .int .i64 x1, .string x2, .string x3, .bool x4, .int .i64 x5, .int .i64 x6, .int .i64 x7] 32 (0, 0)) ∧ (∀ (j : Nat) (u : Value), (#[.int .i64 y0, .int .i64 y1, .string y2, .string y3, .bool y4, .int .i64 y5, .int .i64 y6, .int .i64 y7] : Array Value)[j]? = some u → w'.cell? ((ad2.add (t * 8)).add j) = some u)) (ds := []) #[false, false, false, false, false, false, false, false, false, false, false, false] (by kernel_rfl) rfl rfl ⟨Y.out, hY2.out⟩ (fun _ => ?_)
                have n_H2 := Aside0.mk (below_drew1 H2.out)
                have n_Y := Aside0.mk (show wr.drew.heap[g10]? = some (.cells #[.int .i64 x0, .int .i64 x1, .string x2, .string x3, .bool x4, .int .i64 x5, .int .i64 x6, .int .i64 x7] 32 (0, 0)) from Y.out)
                have n_hY2 := Aside0.mk (show ∀ (j : Nat) (u : Value), (#[.int .i64 y0, .int .i64 y1, .string y2, .string y3, .bool y4, .int .i64 y5, .int .i64 y6, .int .i64 y7] : Array Value)[j]? = some u → wr.drew.cell? ((ad2.add (t * 8)).add j) = some u from hY2.out)
                clear H2 Y hY2
                have H2 := n_H2
                have Y := n_Y
                have hY2 := n_hY2
                clear n_H2 n_Y n_hY2
                generalize wr.drew = V at *
                refine pure_ (i := 0) (N := some 51) (v := ?_) (a' := ?_) #[true, false, false, false, false, false, false, false, false, false, false, false] rfl rfl (by kernel_rfl) (fun _ _ _ h => h) (Or.inl ⟨by rfl, ?_⟩) ?_ ?_
                rotate_left
                · intro w'
                  go_simp
                  with_reducible rfl
                rotate_left
                · simp only [Act.put, List.setIfInBounds_toArray, List.set_cons_zero, List.set_cons_succ]
                  rfl
                refine pure_ (i := 1) (N := some 52) (v := ?_) (a' := ?_) #[true, true, false, false, false, false, false, false, false, false, false, false] rfl rfl (by kernel_rfl) (fun _ _ _ h => h) (Or.inl ⟨by rfl, ?_⟩) ?_ ?_
                rotate_left
                · intro w'
                  go_simp
                  with_reducible rfl
                rotate_left
                · simp only [Act.put, List.setIfInBounds_toArray, List.set_cons_zero, List.set_cons_succ]
                  rfl
                refine pure_ (i := 2) (N := some 53) (v := ?_) (a' := ?_) #[true, true, true, false, false, false, false, false, false, false, false, false] rfl rfl (by kernel_rfl) (fun _ _ _ h => h) (Or.inl ⟨by rfl, ?_⟩) ?_ ?_
                rotate_left
                · intro w'
                  go_simp
                  with_reducible rfl
                rotate_left
                · simp only [Act.put, List.setIfInBounds_toArray, List.set_cons_zero, List.set_cons_succ]
                  rfl
                refine pure_ (i := 3) (N := some 54) (v := ?_) (a' := ?_) #[true, true, true, true, false, false, false, false, false, false, false, false] rfl rfl (by kernel_rfl) (fun _ _ _ h => h) (Or.inl ⟨by rfl, ?_⟩) ?_ ?_
                rotate_left
                · intro w'
                  go_simp
                  with_reducible rfl
                rotate_left
                · simp only [Act.put, List.setIfInBounds_toArray, List.set_cons_zero, List.set_cons_succ]
                  rfl
                refine pure_ (i := 4) (N := some 55) (v := ?_) (a' := ?_) #[true, true, true, true, true, false, false, false, false, false, false, false] rfl rfl (by kernel_rfl) (fun _ _ _ h => h) (Or.inl ⟨by rfl, ?_⟩) ?_ ?_
                rotate_left
                · intro w'
                  go_simp
                  with_reducible rfl
                rotate_left
                · simp only [Act.put, List.setIfInBounds_toArray, List.set_cons_zero, List.set_cons_succ]
                  rfl
                refine pure_ (i := 5) (N := some 56) (v := ?_) (a' := ?_) #[true, true, true, true, true, true, false, false, false, false, false, false] rfl rfl (by kernel_rfl) (fun _ _ _ h => h) (Or.inl ⟨by rfl, ?_⟩) ?_ ?_
                rotate_left
                · intro w'
                  go_simp
                  with_reducible rfl
                rotate_left
                · simp only [Act.put, List.setIfInBounds_toArray, List.set_cons_zero, List.set_cons_succ]
                  rfl
                refine pure_ (i := 6) (N := some 57) (v := ?_) (a' := ?_) #[true, true, true, true, true, true, true, false, false, false, false, false] rfl rfl (by kernel_rfl) (fun _ _ _ h => h) (Or.inl ⟨by rfl, ?_⟩) ?_ ?_
                rotate_left
                · intro w'
                  go_simp
                  with_reducible rfl
                rotate_left
                · simp only [Act.put, List.setIfInBounds_toArray, List.set_cons_zero, List.set_cons_succ]
                  rfl
                refine pure_ (i := 7) (N := some 58) (v := ?_) (a' := ?_) #[true, true, true, true, true, true, true, true, false, false, false, false] rfl rfl (by kernel_rfl) (fun _ _ _ h => h) (Or.inl ⟨by rfl, ?_⟩) ?_ ?_
                rotate_left
                · intro w'
                  go_simp
                  with_reducible rfl
                rotate_left
                · simp only [Act.put, List.setIfInBounds_toArray, List.set_cons_zero, List.set_cons_succ]
                  rfl
                refine take_ (i := 8) (N := some 59) (v := .agg #[.int .i64 y0, .int .i64 y1, .string y2, .string y3, .bool y4, .int .i64 y5, .int .i64 y6, .int .i64 y7]) (a' := ?_) #[true, true, true, true, true, true, true, true, true, false, false, false] rfl rfl (by kernel_rfl) (fun _ _ _ h => h) (Or.inl ⟨by rfl, fun w' hS => loadm_run' (p := 58) rfl rfl hS.2 Try.underlying32 rfl (by kernel_rfl)⟩) ⟨Y.out, hY2.out⟩ ?_ ?_
                rotate_left
                · simp only [Act.put, List.setIfInBounds_toArray, List.set_cons_zero, List.set_cons_succ]
                  rfl
                refine take_ (i := 9) (N := some 60) (v := .agg #[.int .i64 x0, .int .i64 x1, .string x2, .string x3, .bool x4, .int .i64 x5, .int .i64 x6, .int .i64 x7]) (a' := ?_) #[true, true, true, true, true, true, true, true, true, true, false, false] rfl rfl (by kernel_rfl) (fun _ _ _ h => h) (Or.inl ⟨by rfl, fun w' hS => load_run' (p := 10) rfl rfl hS.1 Try.underlying32 rfl (by kernel_rfl)⟩) ⟨Y.out, hY2.out⟩ ?_ ?_
                rotate_left
                · simp only [Act.put, List.setIfInBounds_toArray, List.set_cons_zero, List.set_cons_succ]
                  rfl
                refine pure_ (i := 10) (N := some 61) (v := ?_) (a' := ?_) #[true, true, true, true, true, true, true, true, true, true, true, false] rfl rfl (by kernel_rfl) (fun _ _ _ h => h) (Or.inl ⟨by rfl, ?_⟩) ?_ ?_
                rotate_left
                · intro w'
                  go_simp
                  with_reducible rfl
                rotate_left
                · simp only [Act.put, List.setIfInBounds_toArray, List.set_cons_zero, List.set_cons_succ]
                  rfl
                refine pure_ (i := 11) (N := some 62) (v := ?_) (a' := ?_) #[true, true, true, true, true, true, true, true, true, true, true, true] rfl rfl (by kernel_rfl) (fun _ _ _ h => h) (Or.inl ⟨by rfl, ?_⟩) ?_ ?_
                rotate_left
                · intro w'
                  go_simp
                  with_reducible rfl
                rotate_left
                · simp only [Act.put, List.setIfInBounds_toArray, List.set_cons_zero, List.set_cons_succ]
                  rfl
                refine done_ (by kernel_rfl) ?_
                have n_HU := Aside0.mk (sub_skip (by rw [← HD.out]; exact HU.out) HNE.out)
                clear hY2 HD hbq HNE HU
                have HU := n_HU
                clear n_HU
                go_wp2_with fail
                go_roundw
                case rel => exact ⟨t + 1, by go_num, by omega, HU, Y, H2⟩
                case measure => simp [intOf]; omega
          · obtain rfl : i = kf.length := by omega
            go_wp2_with fail
            clear HU
            have n_HC := Aside0.mk (Kd.C_below HC.out H2.out)
            have n_HB := Aside0.mk (below_step HB.out H2.out)
            clear HC HB H2 HK
            have HC := n_HC
            have HB := n_HB
            clear n_HC n_HB
            refine (pview_calls A k l wr HC.out (by omega) HZ.out).mono ?_
            rintro e w3 ⟨u2, rfl, hR, hb⟩
            rw [HVF.out] at hR
            obtain ⟨A2, c2, hu2, hc2, hC2⟩ := Kd.R_reads hR
            subst hu2
            have n_HB := Aside0.mk (below_step HB.out hb)
            clear HB hR hb HC
            have HB := n_HB
            clear n_HB
            have HK := Aside0.mk hC2
            clear hC2
            have hmax : vf.length < 9223372036854775808 := Nat.lt_succ_of_le HK.out.2.1
            go_wp2_with fail
            go_loopw [93] (fun iv wz => ∃ (i : Nat), iv = .int .i64 i ∧ i ≤ vf.length ∧ Aside0 (Below w3.heap.size w3 wz)) (fun iv _ => vf.length - (intOf iv).toNat)
            case atStart => exact ⟨0, rfl, Nat.zero_le _, ⟨Below.refl _ _⟩⟩
            case round =>
              obtain ⟨i, rfl, hil, H3⟩ := hrel
              by_cases hlt : i < vf.length
              · obtain ⟨ad, hAd, hcs⟩ := at_rec HK.out i hlt hlt
                have hcs' := Aside0.mk (cells_below hcs H3.out)
                obtain ⟨hne, hgo⟩ := HV.out.2 vf[i] (List.getElem_mem hlt)
                have HPI : Aside0 (∀ (j : Nat) (hj : j + 1 = i), kL (vf[j]'(by omega)) < kL vf[i]) := ⟨fun j hj => List.pairwise_iff_getElem.1 HV.out.1 j i (by omega) hlt (by omega)⟩
                clear hcs
                obtain ⟨pr, hpr⟩ : ∃ pr, vf[i] = pr := ⟨_, rfl⟩
                simp only [hpr] at hcs' HPI hne hgo
                clear hpr
                obtain ⟨x0, x1, x2, x3, x4, x5, x6, x7⟩ := pr
                simp only [Rc.cs] at hcs' hgo
                have hne : x2.toList ≠ [] := hne
                have HPI : Aside0 (∀ (j : Nat) (hj : j + 1 = i), kL (vf[j]'(by omega)) < x2.toList) := HPI
                subst hgo
                have he2 : x2.toList.isEmpty = false := by rw [Bool.eq_false_iff]; exact fun h => hne (List.isEmpty_iff.1 h)
                rcases i with _ | j
                · subst hAd
                  go_wp2_with (first
                    | ((with_reducible refine gate_dst (N := 97) rfl ?_); refine load_evm' (N := 97) rfl rfl rfl (cs := #[.int .i64 x0, .int .i64 x1, .string x2, .string x3, .bool false, .int .i64 x5, .int .i64 x6, .int .i64 x7]) rfl hcs'.out Try.underlying32 rfl (by kernel_rfl) ?_)
                    | ((with_reducible refine gate_dst (N := 15) rfl ?_); refine box_event rfl (N := 15) rfl (cs := #[.int .i64 0, .int .i64 0, .string ⟨#[]⟩, .string ⟨#[]⟩, .bool false, .int .i64 0, .int .i64 0, .int .i64 0]) (t := 32) ?hr ?_; (case hr => first | (go_simp; done) | (go_simp; rfl)); intro g15 hg15 v1 hbx hbl; have n_H := Aside0.mk (below_step H3.out hbl); have G15 := Aside0.mk (show w3.heap.size ≤ g15 by rw [hg15]; exact H3.out.size); have Y := Aside0.mk hbx; clear H3 hbx hbl hg15; have H3 := n_H; clear n_H)
                    | ((with_reducible refine gate_store (t := 32) (p := 15) rfl ?_); refine store_ev rfl rfl rfl (cells := #[.int .i64 x0, .int .i64 x1, .string x2, .string x3, .bool false, .int .i64 x5, .int .i64 x6, .int .i64 x7]) rfl rfl Y.out (by kernel_rfl) rfl (by kernel_rfl) ?_; intro v2 hbx hgr; have n_H := Aside0.mk (below_put H3.out G15.out hgr H3.out.size); have n_Y := Aside0.mk hbx; clear H3 Y hbx hgr; have H3 := n_H; have Y := n_Y; clear n_H n_Y; have ya : v2.cell? ⟨g15, 4, none⟩ = some (.bool false) := (blk_cell Y.out 4).trans rfl; have yb : v2.cell? ⟨g15, 2, none⟩ = some (.string x2) := (blk_cell Y.out 2).trans rfl))
                  go_quiet (fail)
                  go_wp2_with fail
                  go_roundw
                  case rel => exact ⟨1, by go_num, by omega, ⟨pw_below_drewN H3.out _⟩⟩
                  case measure => simp [intOf]; omega
                · obtain ⟨ad2, hAd2, hcs2⟩ := at_rec HK.out j (by omega) (by omega)
                  have had : ad = ad2 := by rw [hAd] at hAd2; exact Option.some.inj hAd2
                  subst had
                  have hlj : kL (vf[j]'(by omega)) < x2.toList := HPI.out j rfl
                  obtain ⟨kb, hkb⟩ : ∃ kb, (vf[j]'(by omega)).f2 = kb := ⟨_, rfl⟩
                  have hk2 : w3.cell? ((ad.add (j * 8)).add 2) = some (.string (vf[j]'(by omega)).f2) := hcs2 2 _ rfl
                  rw [hkb] at hk2
                  unfold kL at hlj
                  rw [hkb] at hlj
                  have HK2 : Aside0 (w3.cell? ⟨(ad.add (j * 8)).block, (ad.add (j * 8)).off + 2, none⟩ = some (.string kb)) := ⟨by
                    have h9 := hk2
                    rw [Go.Deep.add_add] at h9
                    rw [← add_field _ _ 2 (by omega)]
                    exact h9⟩
                  have hsub : wrap64 (((j + 1 : Nat) : Int) - 1) = (j : Int) := by unfold wrap64; omega
                  have hjl : j < vf.length := by omega
                  have hd : decide (kb.toList < x2.toList) = true := decide_eq_true hlj
                  subst hAd
                  clear hcs2 hk2 hkb hAd2 HPI hlj
                  go_wp2_with (first
                    | ((with_reducible refine gate_dst (N := 97) rfl ?_); refine load_evm' (N := 97) rfl rfl rfl (cs := #[.int .i64 x0, .int .i64 x1, .string x2, .string x3, .bool false, .int .i64 x5, .int .i64 x6, .int .i64 x7]) rfl hcs'.out Try.underlying32 rfl (by kernel_rfl) ?_)
                    | ((with_reducible refine gate_dst (N := 15) rfl ?_); refine box_event rfl (N := 15) rfl (cs := #[.int .i64 0, .int .i64 0, .string ⟨#[]⟩, .string ⟨#[]⟩, .bool false, .int .i64 0, .int .i64 0, .int .i64 0]) (t := 32) ?hr ?_; (case hr => first | (go_simp; done) | (go_simp; rfl)); intro g15 hg15 v1 hbx hbl; have n_H := Aside0.mk (below_step H3.out hbl); have G15 := Aside0.mk (show w3.heap.size ≤ g15 by rw [hg15]; exact H3.out.size); have Y := Aside0.mk hbx; clear H3 hbx hbl hg15; have H3 := n_H; clear n_H)
                    | ((with_reducible refine gate_store (t := 32) (p := 15) rfl ?_); refine store_ev rfl rfl rfl (cells := #[.int .i64 x0, .int .i64 x1, .string x2, .string x3, .bool false, .int .i64 x5, .int .i64 x6, .int .i64 x7]) rfl rfl Y.out (by kernel_rfl) rfl (by kernel_rfl) ?_; intro v2 hbx hgr; have n_H := Aside0.mk (below_put H3.out G15.out hgr H3.out.size); have n_Y := Aside0.mk hbx; clear H3 Y hbx hgr; have H3 := n_H; have Y := n_Y; clear n_H n_Y; have kk : v2.cell? ⟨(ad.add (j * 8)).block, (ad.add (j * 8)).off + 2, none⟩ = some (.string kb) := (H3.out.cell (World.block_lt_of_cell? w3 _ HK2.out)).trans HK2.out; have ya : v2.cell? ⟨g15, 4, none⟩ = some (.bool false) := (blk_cell Y.out 4).trans rfl; have yb : v2.cell? ⟨g15, 2, none⟩ = some (.string x2) := (blk_cell Y.out 2).trans rfl))
                  go_quiet (fail)
                  go_wp2_with fail
                  go_roundw
                  case rel => exact ⟨j + 2, by go_num, by omega, ⟨pw_below_drewN H3.out _⟩⟩
                  case measure => simp [intOf]; omega
              · obtain rfl : i = vf.length := by omega
                go_wp2_with fail
                refine (four_calls _).mono ?_
                rintro e w9 ⟨rfl, hb⟩
                have HB2 := Aside0.mk (below_step (below_step HB.out H3.out) hb)
                clear hb
                go_wp2_with fail
                go_ret
                exact ⟨rfl, HB2.out⟩
end
end Go.Proofs.Ytgojaomldkgojaa.Cm
