import Derived.Test.YtgojaomldkgojaaCm7
namespace Go.Proofs.Ytgojaomldkgojaa.Cm
set_option linter.unusedVariables false
set_option linter.unusedSimpArgs false
open Go.RowKit Go.Maps Go.Proofs.YtgojaomldkgojaaW.PrintWords Go.Proofs.YtgojaomldkgojaaW.PrintLast Go.Proofs.YtgojaomldkgojaaW.PrintMore Go.Proofs.Ytgojaomldkgojaa.PCm Go.Proofs.Ytgojaomldkgojaa.Wire
theorem recs_below {W W' : World} {base : Nat} {v : Value} {xs : List Rc} (h : Kd.R k32 32 W base (fun _ => True) v xs) (hb : Below W.heap.size W W') : Kd.R k32 32 W' base (fun _ => True) v xs :=
  Kd.R_mono (Kd.R_step (Kd.R_bound h) (fun k hk hlt => hb.block k hlt)) (fun _ _ => trivial)
theorem blk_below {W W' : World} {g : Nat} {ob : Obj} (h : W.heap[g]? = some ob) (hb : Below W.heap.size W W') : W'.heap[g]? = some ob :=
  (hb.block g (Array.getElem?_eq_some_iff.1 h).1).trans h
set_option maxHeartbeats 16000000 in
set_option maxRecDepth 100000 in
theorem last_calls (A : Option Addr) (k : Nat) (l : List Rc) (i0 : Nat) (hi : i0 < l.length) (w : World) (hA : Kd.C k32 w A l.length l) (hk : l.length ≤ k) :
    Calls Try.prog 45 #[.slice A l.length k, .int .i64 (i0 : Int)] w fun e w' => e = .returned (.bool (fresh kL (l.drop (i0 + 1)) (kL l[i0]))) ∧ Below w.heap.size w w' := by
  have hmax : l.length < 9223372036854775808 := Nat.lt_succ_of_le hA.2.1
  obtain ⟨ad0, hAd0, hc0⟩ := at_rec hA i0 hi hi
  obtain ⟨i06, hi06, _, hsz6, _⟩ := info_parts info32
  have hcut := cut_from (P := Try.prog) 22 32 .i64 Try.underlying22 hi06 8 hsz6 A l.length k ((i0 : Int) + 1) (by omega) (by omega)
  have hr6 := Kd.C_drop (m := i0 + 1) (c := k) hA (by omega) hk
  have et : ((i0 : Int) + 1).toNat = i0 + 1 := by omega
  rw [et] at hcut
  obtain ⟨A6, hA6⟩ : ∃ A1, A1 = (if k = i0 + 1 then A else A.map (·.add ((i0 + 1) * 8))) := ⟨_, rfl⟩
  rw [← hA6] at hcut
  replace hr6 : Kd.C k32 w A6 (l.drop (i0 + 1)).length (l.drop (i0 + 1)) := by rw [hA6]; exact hr6
  have hml : l.length - (i0 + 1) = (l.drop (i0 + 1)).length := (List.length_drop).symm
  rw [hml] at hcut
  obtain ⟨K, hK⟩ : ∃ K, kL l[i0] = K := ⟨_, rfl⟩
  obtain ⟨kb, hkb⟩ : ∃ kb : ByteArray, l[i0].f2 = kb := ⟨_, rfl⟩
  have hkk : kb.toList = K := by rw [← hkb, ← hK]; rfl
  have hcell : w.cell? ⟨(ad0.add (i0 * 8)).block, (ad0.add (i0 * 8)).off + 2, none⟩ = some (.string kb) := by
    rw [← hkb]
    have h9 := hc0 2 _ rfl
    rw [Go.Deep.add_add] at h9
    rw [← add_field _ _ 2 (by omega)]
    exact h9
  rw [hK]
  subst hAd0
  have HCL := Aside0.mk hcell
  generalize l.drop (i0 + 1) = m at *
  have HRM := Aside0.mk hr6
  have hmm : m.length < 9223372036854775808 := Nat.lt_succ_of_le hr6.2.1
  clear hA hr6 hA6 hc0 hcell hi06 hsz6 hkb et
  obtain ⟨b, hb⟩ : ∃ b, fresh kL m K = b := ⟨_, rfl⟩
  have HBG := Aside0.mk hb
  have hwr : wrap64 ((i0 : Int) + 1) = (i0 : Int) + 1 := by unfold wrap64; omega
  rw [hb]
  clear hb
  go_enter Try.func45, Try.ntmps45
  go_wp2_with fail
  go_loopw [12] (fun iv wr => ∃ i : Nat, iv = .int .i64 i ∧ i ≤ m.length ∧ Aside0 (fresh kL (m.take i) K = true) ∧ Aside0 (Below w.heap.size w wr)) (fun iv _ => m.length - (intOf iv).toNat)
  case atStart => exact ⟨0, rfl, Nat.zero_le _, ⟨rfl⟩, ⟨Below.refl _ _⟩⟩
  case round =>
    obtain ⟨i, rfl, hil, HN, HB⟩ := hrel
    by_cases hlt : i < m.length
    · obtain ⟨ad, hAd, hcs⟩ := at_rec HRM.out i hlt hlt
      have hcs' := Aside0.mk (cells_below hcs HB.out)
      have HN2 : Aside0 (fresh kL (m.take (i + 1)) K = decide (kL m[i] ≠ K)) := ⟨by
        have h9 := HN.out
        unfold fresh at h9 ⊢
        rw [List.take_succ_eq_append_getElem hlt, List.all_append, h9]
        simp⟩
      have HT : Aside0 (kL m[i] = K → b = false) := ⟨fun h => by
        rw [← HBG.out, Bool.eq_false_iff]
        intro h9
        have := List.all_eq_true.1 h9 m[i] (List.getElem_mem hlt)
        simp [h] at this⟩
      subst hAd
      clear hcs HN
      obtain ⟨pr, hpr⟩ : ∃ pr, m[i] = pr := ⟨_, rfl⟩
      simp only [hpr] at hcs' HN2 HT
      clear hpr
      obtain ⟨x0, x1, x2, x3, x4, x5, x6, x7⟩ := pr
      simp only [Rc.cs, kL] at hcs' HN2 HT
      go_wp2_with (first
        | ((with_reducible refine gate_dst (N := 15) rfl ?_); refine load_evm' (N := 15) rfl rfl rfl (cs := #[.int .i64 x0, .int .i64 x1, .string x2, .string x3, .bool x4, .int .i64 x5, .int .i64 x6, .int .i64 x7]) rfl hcs'.out Try.underlying32 rfl (by kernel_rfl) ?_)
        | ((with_reducible refine gate_dst (N := 6) rfl ?_); refine box_event rfl (N := 6) rfl (cs := #[.int .i64 0, .int .i64 0, .string ⟨#[]⟩, .string ⟨#[]⟩, .bool false, .int .i64 0, .int .i64 0, .int .i64 0]) (t := 32) ?hr ?_; (case hr => first | (go_simp; done) | (go_simp; rfl)); intro g6 hg6 w1 hbx hbl; have n_HB := Aside0.mk (below_step HB.out hbl); have G6 := Aside0.mk (show w.heap.size ≤ g6 by rw [hg6]; exact HB.out.size); have Y := Aside0.mk hbx; clear HB hbx hbl hg6; have HB := n_HB; clear n_HB)
        | ((with_reducible refine gate_store (t := 32) (p := 6) rfl ?_); refine store_ev rfl rfl rfl (cells := #[.int .i64 x0, .int .i64 x1, .string x2, .string x3, .bool x4, .int .i64 x5, .int .i64 x6, .int .i64 x7]) rfl rfl Y.out (by kernel_rfl) rfl (by kernel_rfl) ?_; intro w2 hbx hgr; have n_HB := Aside0.mk (below_put HB.out G6.out hgr HB.out.size); have n_Y := Aside0.mk hbx; clear HB Y hbx hgr; have HB := n_HB; have Y := n_Y; clear n_HB n_Y; have y2 : w2.cell? ⟨g6, 2, none⟩ = some (.string x2) := (blk_cell Y.out 2).trans rfl; have k2 : w2.cell? ⟨(ad0.add (i0 * 8)).block, (ad0.add (i0 * 8)).off + 2, none⟩ = some (.string kb) := (HB.out.cell (World.block_lt_of_cell? w _ HCL.out)).trans HCL.out))

      by_cases hx : x2.toList = K
      · obtain rfl : b = false := HT.out hx
        have hq : (x2.toList == K) = true := by exact beq_iff_eq.2 hx
        go_quiet (fail)
        go_wp2_with fail
        go_ret
        exact ⟨rfl, by first | exact HB.out | exact pw_below_drewN HB.out _⟩
      · have hq : (x2.toList == K) = false := by exact beq_eq_false_iff_ne.2 hx
        go_quiet (fail)
        go_wp2_with fail
        go_roundw
        case rel => exact ⟨i + 1, by go_num, by omega, ⟨HN2.out.trans (by simp [hx])⟩, ⟨by first | exact HB.out | exact pw_below_drewN HB.out _⟩⟩
        case measure => simp [intOf]; omega
    · obtain rfl : i = m.length := by omega
      obtain rfl : b = true := by
        rw [← HBG.out]
        have h9 := HN.out
        rw [List.take_length] at h9
        exact h9
      go_wp2_with fail
      go_ret
      exact ⟨rfl, HB.out⟩
set_option maxHeartbeats 16000000 in
set_option maxRecDepth 100000 in
theorem rkeep_calls (A : Option Addr) (k : Nat) (l : List Rc) (dead : Int) (w : World) (hr : Kd.C k32 w A l.length l) (hkk : l.length ≤ k) (hl : l.length ≤ 1000) :
    Calls Try.prog 16 #[.slice A l.length k, .int .i64 dead] w fun e w' => ∃ u, e = .returned u ∧ Kd.R k32 32 w' w.heap.size (fun _ => True) u (keepF dead l) ∧ Below w.heap.size w w' := by
  have hund : ∀ b, some undef = some (Value.bool b) → False := fun b h => by simp [undef] at h
  have HR := Aside0.mk hr
  clear hr
  go_enter Try.func16, Try.ntmps16
  go_wp2_with fail
  go_loopw [5, 10] (fun ov iv wr => ∃ (i : Nat) (acc : List Rc), iv = .int .i64 i ∧ i ≤ l.length ∧ Aside0 (acc.length ≤ i) ∧ Aside0 (acc ++ keepF dead (l.drop i) = keepF dead l) ∧ Aside0 (Kd.R k32 32 wr w.heap.size (fun _ => True) ov acc) ∧ Aside0 (Below w.heap.size w wr)) (fun _ iv _ => l.length - (intOf iv).toNat)
  case atStart => exact ⟨0, [], rfl, Nat.zero_le _, ⟨Nat.le_refl _⟩, ⟨rfl⟩, ⟨Kd.R_nil _ _ _ _ _⟩, ⟨Below.refl _ _⟩⟩
  case round =>
    obtain ⟨i, acc, rfl, hil, HN, HL, R, HB⟩ := hrel
    by_cases hlt : i < l.length
    · obtain ⟨ad, hAd, hcs⟩ := at_rec (Kd.C_below HR.out HB.out) i hlt hlt
      have hcs' := Aside0.mk hcs
      have hdr : l.drop i = l[i] :: l.drop (i + 1) := List.drop_eq_getElem_cons hlt
      have HK : Aside0 (keepF dead (l.drop i) = if kL l[i] = [] ∨ (fresh kL (l.drop (i + 1)) (kL l[i]) = true ∧ (l[i].f4 && oldB dead l[i]) = false) then l[i] :: keepF dead (l.drop (i + 1)) else keepF dead (l.drop (i + 1))) := ⟨by rw [hdr]; rfl⟩
      have hla := Aside0.mk (fun (W : World) (h : Kd.C k32 W A l.length l) => last_calls A k l i hlt W h hkk)
      subst hAd
      clear hcs hdr
      obtain ⟨fr, hfr⟩ : ∃ fr, fresh kL (l.drop (i + 1)) (kL l[i]) = fr := ⟨_, rfl⟩
      rw [hfr] at HK
      simp only [hfr] at hla
      clear hfr
      obtain ⟨pr, hpr⟩ : ∃ pr, l[i] = pr := ⟨_, rfl⟩
      simp only [hpr] at hcs' HK
      clear hpr
      obtain ⟨x0, x1, x2, x3, x4, x5, x6, x7⟩ := pr
      simp only [Rc.cs, kL, oldB] at hcs' HK
      have HBz := Aside0.mk HB.out.size
      by_cases he : x2.toList = []
      · have HK2 := Aside0.mk (HK.out.trans (if_pos (.inl he))); clear HK; have HK := HK2
        have he2 : x2.toList.isEmpty = true := by rw [he]; rfl
        go_wp2_with (first
          | ((with_reducible refine gate_dst (N := 14) rfl ?_); refine load_evm' (N := 14) rfl rfl rfl (cs := #[.int .i64 x0, .int .i64 x1, .string x2, .string x3, .bool x4, .int .i64 x5, .int .i64 x6, .int .i64 x7]) rfl hcs'.out Try.underlying32 rfl (by kernel_rfl) ?_)
          | ((with_reducible refine gate_dst (N := 7) rfl ?_); refine box_event rfl (N := 7) rfl (cs := #[.int .i64 0, .int .i64 0, .string ⟨#[]⟩, .string ⟨#[]⟩, .bool false, .int .i64 0, .int .i64 0, .int .i64 0]) (t := 32) ?hr ?_; (case hr => first | (go_simp; done) | (go_simp; rfl)); intro g7 hg7 w1 hbx hbl; have n_HB := Aside0.mk (below_step HB.out hbl); have HX := Aside0.mk hbl; have G7 := Aside0.mk (show wr.heap.size ≤ g7 by rw [hg7]; exact Nat.le_refl _); have Y := Aside0.mk hbx; clear HB hbx hbl hg7; have HB := n_HB; clear n_HB)
          | ((with_reducible refine gate_store (t := 32) (p := 7) rfl ?_); refine store_ev rfl rfl rfl (cells := #[.int .i64 x0, .int .i64 x1, .string x2, .string x3, .bool x4, .int .i64 x5, .int .i64 x6, .int .i64 x7]) rfl rfl Y.out (by kernel_rfl) rfl (by kernel_rfl) ?_; intro w2 hbx hgr; have n_R := Aside0.mk (recs_new R.out HX.out hgr G7.out); have n_HB := Aside0.mk (below_put HB.out (Nat.le_trans HBz.out G7.out) hgr HB.out.size); have n_Y := Aside0.mk hbx; clear HB Y hbx hgr R HX; have HB := n_HB; have Y := n_Y; have R := n_R; clear n_HB n_Y n_R; have y2 : w2.cell? ⟨g7, 2, none⟩ = some (.string x2) := (blk_cell Y.out 2).trans rfl; have y1 : w2.cell? ⟨g7, 1, none⟩ = some (.int .i64 x1) := (blk_cell Y.out 1).trans rfl; have y4 : w2.cell? ⟨g7, 4, none⟩ = some (.bool x4) := (blk_cell Y.out 4).trans rfl)
          | ((with_reducible refine gate_dst (N := 35) rfl ?_); refine load_ev (N := 35) rfl rfl rfl (cs := #[.int .i64 x0, .int .i64 x1, .string x2, .string x3, .bool x4, .int .i64 x5, .int .i64 x6, .int .i64 x7]) rfl Y.out Try.underlying32 rfl (by kernel_rfl) ?_)
          | ((with_reducible refine gate_builtin (b := .append) (xs := #[.tmp 34, .tmp 36]) rfl ?_); at_builtin; refine Kd.R_append k32 (w0 := w) w.heap.size rfl (.tmp 34) (.tmp 36) 22 32 (.agg #[.int .i64 0, .int .i64 0, .string ⟨#[]⟩, .string ⟨#[]⟩, .bool false, .int .i64 0, .int .i64 0, .int .i64 0]) 80 rfl Try.underlying22 info32 rfl (by decide) (by decide) _ acc ⟨x0, x1, x2, x3, x4, x5, x6, x7⟩ [.int .i64 x0, .int .i64 x1, .string x2, .string x3, .bool x4, .int .i64 x5, .int .i64 x6, .int .i64 x7] (fun _ => True) (fun _ => False) rfl ?aX (k32_mkM _ _ _ ⟨x0, x1, x2, x3, x4, x5, x6, x7⟩) (fun _ hk => hk.elim) (fun _ _ => trivial) R.out HB.out HB.out.size ?aL ?_; (case aX => first | rfl | (go_simp; done) | (go_simp; rfl)); (case aL => have := HN.out; omega); intro v1 w4 ho hb hgr hat; clear R HB hgr hat; have R := Aside0.mk ho; have HB := Aside0.mk hb; clear ho hb))
        try clear hx4
        try clear hx5
        try clear hd
        try clear hd2
        try clear hd3
        go_roundw
        case rel => exact ⟨i + 1, acc ++ [⟨x0, x1, x2, x3, x4, x5, x6, x7⟩], by go_num, by omega, ⟨by rw [List.length_append]; have := HN.out; simp; omega⟩, ⟨by rw [← HL.out, HK.out]; simp⟩, R, HB⟩
        case measure => simp [intOf]; omega
      have he2 : x2.toList.isEmpty = false := by rw [Bool.eq_false_iff]; exact fun h => he (List.isEmpty_iff.1 h)
      go_wp2_with (first
        | ((with_reducible refine gate_dst (N := 14) rfl ?_); refine load_evm' (N := 14) rfl rfl rfl (cs := #[.int .i64 x0, .int .i64 x1, .string x2, .string x3, .bool x4, .int .i64 x5, .int .i64 x6, .int .i64 x7]) rfl hcs'.out Try.underlying32 rfl (by kernel_rfl) ?_)
        | ((with_reducible refine gate_dst (N := 7) rfl ?_); refine box_event rfl (N := 7) rfl (cs := #[.int .i64 0, .int .i64 0, .string ⟨#[]⟩, .string ⟨#[]⟩, .bool false, .int .i64 0, .int .i64 0, .int .i64 0]) (t := 32) ?hr ?_; (case hr => first | (go_simp; done) | (go_simp; rfl)); intro g7 hg7 w1 hbx hbl; have n_HB := Aside0.mk (below_step HB.out hbl); have HX := Aside0.mk hbl; have G7 := Aside0.mk (show wr.heap.size ≤ g7 by rw [hg7]; exact Nat.le_refl _); have Y := Aside0.mk hbx; clear HB hbx hbl hg7; have HB := n_HB; clear n_HB)
        | ((with_reducible refine gate_store (t := 32) (p := 7) rfl ?_); refine store_ev rfl rfl rfl (cells := #[.int .i64 x0, .int .i64 x1, .string x2, .string x3, .bool x4, .int .i64 x5, .int .i64 x6, .int .i64 x7]) rfl rfl Y.out (by kernel_rfl) rfl (by kernel_rfl) ?_; intro w2 hbx hgr; have n_R := Aside0.mk (recs_new R.out HX.out hgr G7.out); have n_HB := Aside0.mk (below_put HB.out (Nat.le_trans HBz.out G7.out) hgr HB.out.size); have n_Y := Aside0.mk hbx; clear HB Y hbx hgr R HX; have HB := n_HB; have Y := n_Y; have R := n_R; clear n_HB n_Y n_R; have y2 : w2.cell? ⟨g7, 2, none⟩ = some (.string x2) := (blk_cell Y.out 2).trans rfl; have y1 : w2.cell? ⟨g7, 1, none⟩ = some (.int .i64 x1) := (blk_cell Y.out 1).trans rfl; have y4 : w2.cell? ⟨g7, 4, none⟩ = some (.bool x4) := (blk_cell Y.out 4).trans rfl))
      refine (hla.out w2 (Kd.C_below HR.out HB.out)).mono ?_
      rintro e w3 ⟨rfl, hb⟩
      have n_HB := Aside0.mk (below_step HB.out hb)
      have n_R := Aside0.mk (recs_below R.out hb)
      have n_Y := Aside0.mk (blk_below Y.out hb)
      clear HB R Y hb y2 y1 y4
      have HB := n_HB
      have R := n_R
      have Y := n_Y
      clear n_HB n_R n_Y
      have y1 : w3.cell? ⟨g7, 1, none⟩ = some (.int .i64 x1) := (blk_cell Y.out 1).trans rfl
      have y4 : w3.cell? ⟨g7, 4, none⟩ = some (.bool x4) := (blk_cell Y.out 4).trans rfl
      by_cases hfr : fr = true
      · subst hfr
        by_cases hx4 : x4 = false
        · subst hx4
          have HK2 := Aside0.mk (HK.out.trans (if_pos (.inr ⟨rfl, rfl⟩))); clear HK; have HK := HK2
          go_wp2_with (first
            | ((with_reducible refine gate_dst (N := 35) rfl ?_); refine load_ev (N := 35) rfl rfl rfl (cs := #[.int .i64 x0, .int .i64 x1, .string x2, .string x3, .bool false, .int .i64 x5, .int .i64 x6, .int .i64 x7]) rfl Y.out Try.underlying32 rfl (by kernel_rfl) ?_)
            | ((with_reducible refine gate_builtin (b := .append) (xs := #[.tmp 34, .tmp 36]) rfl ?_); at_builtin; refine Kd.R_append k32 (w0 := w) w.heap.size rfl (.tmp 34) (.tmp 36) 22 32 (.agg #[.int .i64 0, .int .i64 0, .string ⟨#[]⟩, .string ⟨#[]⟩, .bool false, .int .i64 0, .int .i64 0, .int .i64 0]) 80 rfl Try.underlying22 info32 rfl (by decide) (by decide) _ acc ⟨x0, x1, x2, x3, false, x5, x6, x7⟩ [.int .i64 x0, .int .i64 x1, .string x2, .string x3, .bool false, .int .i64 x5, .int .i64 x6, .int .i64 x7] (fun _ => True) (fun _ => False) rfl ?aX (k32_mkM _ _ _ ⟨x0, x1, x2, x3, false, x5, x6, x7⟩) (fun _ hk => hk.elim) (fun _ _ => trivial) R.out HB.out HB.out.size ?aL ?_; (case aX => first | rfl | (go_simp; done) | (go_simp; rfl)); (case aL => have := HN.out; omega); intro v1 w4 ho hb hgr hat; clear R HB hgr hat; have R := Aside0.mk ho; have HB := Aside0.mk hb; clear ho hb))
          try clear hx4
          try clear hx5
          try clear hd
          try clear hd2
          try clear hd3
          go_roundw
          case rel => exact ⟨i + 1, acc ++ [⟨x0, x1, x2, x3, false, x5, x6, x7⟩], by go_num, by omega, ⟨by rw [List.length_append]; have := HN.out; simp; omega⟩, ⟨by rw [← HL.out, HK.out]; simp⟩, R, HB⟩
          case measure => simp [intOf]; omega
        · have hx5 : x4 = true := by simpa using hx4
          clear hx4
          subst hx5
          by_cases hd : x1 < dead
          · have HK2 := Aside0.mk (HK.out.trans (if_neg (fun h => h.elim he (fun h => by simp [hd] at h)))); clear HK; have HK := HK2
            have hd3 : decide (x1 < dead) = true := decide_eq_true hd
            go_wp2_with fail
            try clear hx4
            try clear hx5
            try clear hd
            try clear hd2
            try clear hd3
            go_roundw
            case rel => exact ⟨i + 1, acc, by go_num, by omega, ⟨Nat.le_succ_of_le HN.out⟩, ⟨by rw [← HL.out, HK.out]⟩, R, HB⟩
            case measure => simp [intOf]; omega
          · have hd3 : decide (x1 < dead) = false := decide_eq_false hd
            have HK2 := Aside0.mk (HK.out.trans (if_pos (.inr ⟨rfl, by simp [hd]⟩))); clear HK; have HK := HK2
            go_wp2_with (first
              | ((with_reducible refine gate_dst (N := 35) rfl ?_); refine load_ev (N := 35) rfl rfl rfl (cs := #[.int .i64 x0, .int .i64 x1, .string x2, .string x3, .bool true, .int .i64 x5, .int .i64 x6, .int .i64 x7]) rfl Y.out Try.underlying32 rfl (by kernel_rfl) ?_)
              | ((with_reducible refine gate_builtin (b := .append) (xs := #[.tmp 34, .tmp 36]) rfl ?_); at_builtin; refine Kd.R_append k32 (w0 := w) w.heap.size rfl (.tmp 34) (.tmp 36) 22 32 (.agg #[.int .i64 0, .int .i64 0, .string ⟨#[]⟩, .string ⟨#[]⟩, .bool false, .int .i64 0, .int .i64 0, .int .i64 0]) 80 rfl Try.underlying22 info32 rfl (by decide) (by decide) _ acc ⟨x0, x1, x2, x3, true, x5, x6, x7⟩ [.int .i64 x0, .int .i64 x1, .string x2, .string x3, .bool true, .int .i64 x5, .int .i64 x6, .int .i64 x7] (fun _ => True) (fun _ => False) rfl ?aX (k32_mkM _ _ _ ⟨x0, x1, x2, x3, true, x5, x6, x7⟩) (fun _ hk => hk.elim) (fun _ _ => trivial) R.out HB.out HB.out.size ?aL ?_; (case aX => first | rfl | (go_simp; done) | (go_simp; rfl)); (case aL => have := HN.out; omega); intro v1 w4 ho hb hgr hat; clear R HB hgr hat; have R := Aside0.mk ho; have HB := Aside0.mk hb; clear ho hb))
            try clear hx4
            try clear hx5
            try clear hd
            try clear hd2
            try clear hd3
            go_roundw
            case rel => exact ⟨i + 1, acc ++ [⟨x0, x1, x2, x3, true, x5, x6, x7⟩], by go_num, by omega, ⟨by rw [List.length_append]; have := HN.out; simp; omega⟩, ⟨by rw [← HL.out, HK.out]; simp⟩, R, HB⟩
            case measure => simp [intOf]; omega
      · have hf2 : fr = false := by simpa using hfr
        clear hfr
        subst hf2
        have HK2 := Aside0.mk (HK.out.trans (if_neg (fun h => by rcases h with h | ⟨h, _⟩; exact he h; simp at h))); clear HK; have HK := HK2
        go_wp2_with fail
        try clear hx4
        try clear hx5
        try clear hd
        try clear hd2
        try clear hd3
        go_roundw
        case rel => exact ⟨i + 1, acc, by go_num, by omega, ⟨Nat.le_succ_of_le HN.out⟩, ⟨by rw [← HL.out, HK.out]⟩, R, HB⟩
        case measure => simp [intOf]; omega
    · obtain rfl : i = l.length := by omega
      go_wp2_with fail
      refine bodyPost_ret (results_tmp rfl _ _ _) rfl ?_
      refine ⟨_, rfl, ?_, HB.out⟩
      have e := HL.out
      rw [List.drop_length] at e
      rw [← e]
      simpa [keepL] using R.out
end Go.Proofs.Ytgojaomldkgojaa.Cm
