import Derived.Test.YtgojaomldkgojaaCm9
namespace Go.Proofs.Ytgojaomldkgojaa.Cm
set_option linter.unusedVariables false
set_option linter.unusedSimpArgs false
open Go.RowKit Go.Maps Go.Proofs.YtgojaomldkgojaaW.PrintWords Go.Proofs.YtgojaomldkgojaaW.PrintLast Go.Proofs.YtgojaomldkgojaaW.PrintMore Go.Proofs.Ytgojaomldkgojaa.PCm Go.Proofs.Ytgojaomldkgojaa.Wire
abbrev viewR (l : List Rc) : List Rc := viewL kL ltK (liveL kL [] (·.f4) l)
abbrev viewG (acc l : List Rc) : List Rc := (liveL kL [] (·.f4) l).foldl (putL kL ltK) acc
set_option maxHeartbeats 16000000 in
set_option maxRecDepth 100000 in
theorem rview_calls (A : Option Addr) (k : Nat) (l : List Rc) (w : World) (hr : Kd.C k32 w A l.length l) (hkk : l.length ≤ k) (hl : l.length ≤ 1000) :
    Calls Try.prog 18 #[.slice A l.length k] w fun e w' => ∃ u, e = .returned u ∧ Kd.R k32 32 w' w.heap.size (fun _ => True) u (viewR l) ∧ Below w.heap.size w w' := by
  have hund : ∀ b, some undef = some (Value.bool b) → False := fun b h => by simp [undef] at h
  have HR := Aside0.mk hr
  clear hr
  go_enter Try.func18, Try.ntmps18
  go_wp2_with fail
  go_loopw [3, 8] (fun ov iv wr => ∃ (i : Nat) (acc : List Rc), iv = .int .i64 i ∧ i ≤ l.length ∧ Aside0 (acc.length ≤ i) ∧ Aside0 (viewG acc (l.drop i) = viewR l) ∧ Aside0 (Kd.R k32 32 wr w.heap.size (fun _ => True) ov acc) ∧ Aside0 (Below w.heap.size w wr)) (fun _ iv _ => l.length - (intOf iv).toNat)
  case atStart => exact ⟨0, [], rfl, Nat.zero_le _, ⟨Nat.le_refl _⟩, ⟨rfl⟩, ⟨Kd.R_nil _ _ _ _ _⟩, ⟨Below.refl _ _⟩⟩
  case round =>
    obtain ⟨i, acc, rfl, hil, HN, HL, R, HB⟩ := hrel
    by_cases hlt : i < l.length
    · obtain ⟨ad, hAd, hcs⟩ := at_rec (Kd.C_below HR.out HB.out) i hlt hlt
      obtain ⟨Ao, co, hov, hco, hC⟩ := Kd.R_reads R.out
      subst hov
      have HO := Aside0.mk hC
      clear hC
      have hcs' := Aside0.mk hcs
      have hdr : l.drop i = l[i] :: l.drop (i + 1) := List.drop_eq_getElem_cons hlt
      have HK : Aside0 (liveL kL [] (·.f4) (l.drop i) = if kL l[i] ≠ [] ∧ fresh kL (l.drop (i + 1)) (kL l[i]) = true ∧ l[i].f4 = false then l[i] :: liveL kL [] (·.f4) (l.drop (i + 1)) else liveL kL [] (·.f4) (l.drop (i + 1))) := ⟨by rw [hdr]; rfl⟩
      have hla := Aside0.mk (fun (W : World) (h : Kd.C k32 W A l.length l) => last_calls A k l i hlt W h hkk)
      have hpl := Aside0.mk (put_len acc l[i])
      subst hAd
      clear hcs hdr
      obtain ⟨fr, hfr⟩ : ∃ fr, fresh kL (l.drop (i + 1)) (kL l[i]) = fr := ⟨_, rfl⟩
      rw [hfr] at HK
      simp only [hfr] at hla
      clear hfr
      have hpt := Aside0.mk (fun (W : World) (h : Kd.C k32 W Ao acc.length acc) => put_calls Ao co acc l[i] W h (by have := HN.out; omega))
      obtain ⟨pr, hpr⟩ : ∃ pr, l[i] = pr := ⟨_, rfl⟩
      simp only [hpr] at hcs' HK hpt hpl
      clear hpr
      obtain ⟨x0, x1, x2, x3, x4, x5, x6, x7⟩ := pr
      simp only [Rc.cs, kL] at hcs' HK hpt hpl
      have HBz := Aside0.mk HB.out.size
      by_cases he : x2.toList = []
      · have HK2 := Aside0.mk (HK.out.trans (if_neg (fun h => h.1 he))); clear HK; have HK := HK2
        have he2 : x2.toList.isEmpty = true := by rw [he]; rfl
        go_wp2_with (first
          | ((with_reducible refine gate_dst (N := 12) rfl ?_); refine load_evm' (N := 12) rfl rfl rfl (cs := #[.int .i64 x0, .int .i64 x1, .string x2, .string x3, .bool x4, .int .i64 x5, .int .i64 x6, .int .i64 x7]) rfl hcs'.out Try.underlying32 rfl (by kernel_rfl) ?_)
          | ((with_reducible refine gate_dst (N := 5) rfl ?_); refine box_event rfl (N := 5) rfl (cs := #[.int .i64 0, .int .i64 0, .string ⟨#[]⟩, .string ⟨#[]⟩, .bool false, .int .i64 0, .int .i64 0, .int .i64 0]) (t := 32) ?hr ?_; (case hr => first | (go_simp; done) | (go_simp; rfl)); intro g5 hg5 w1 hbx hbl; have n_HB := Aside0.mk (below_step HB.out hbl); have HX := Aside0.mk hbl; have n_HO := Aside0.mk (Kd.C_below HO.out hbl); have G5 := Aside0.mk (show wr.heap.size ≤ g5 by rw [hg5]; exact Nat.le_refl _); have Y := Aside0.mk hbx; clear HB HO hbx hbl hg5; have HB := n_HB; have HO := n_HO; clear n_HB n_HO)
          | ((with_reducible refine gate_store (t := 32) (p := 5) rfl ?_); refine store_ev rfl rfl rfl (cells := #[.int .i64 x0, .int .i64 x1, .string x2, .string x3, .bool x4, .int .i64 x5, .int .i64 x6, .int .i64 x7]) rfl rfl Y.out (by kernel_rfl) rfl (by kernel_rfl) ?_; intro w2 hbx hgr; have n_R := Aside0.mk (recs_new R.out HX.out hgr G5.out); have n_HB := Aside0.mk (below_put HB.out (Nat.le_trans HBz.out G5.out) hgr HB.out.size); have n_Y := Aside0.mk hbx; clear HB Y HO hbx hgr R HX; have HB := n_HB; have Y := n_Y; have R := n_R; clear n_HB n_Y n_R; have HO := Aside0.mk (Kd.R_reads' R.out).2.2; have y2 : w2.cell? ⟨g5, 2, none⟩ = some (.string x2) := (blk_cell Y.out 2).trans rfl))
        try clear hx4
        go_roundw
        case rel => exact ⟨i + 1, acc, by go_num, by omega, ⟨Nat.le_succ_of_le HN.out⟩, ⟨by rw [← HL.out]; unfold viewG; rw [HK.out]⟩, R, HB⟩
        case measure => simp [intOf]; omega
      have he2 : x2.toList.isEmpty = false := by rw [Bool.eq_false_iff]; exact fun h => he (List.isEmpty_iff.1 h)
      go_wp2_with (first
        | ((with_reducible refine gate_dst (N := 12) rfl ?_); refine load_evm' (N := 12) rfl rfl rfl (cs := #[.int .i64 x0, .int .i64 x1, .string x2, .string x3, .bool x4, .int .i64 x5, .int .i64 x6, .int .i64 x7]) rfl hcs'.out Try.underlying32 rfl (by kernel_rfl) ?_)
        | ((with_reducible refine gate_dst (N := 5) rfl ?_); refine box_event rfl (N := 5) rfl (cs := #[.int .i64 0, .int .i64 0, .string ⟨#[]⟩, .string ⟨#[]⟩, .bool false, .int .i64 0, .int .i64 0, .int .i64 0]) (t := 32) ?hr ?_; (case hr => first | (go_simp; done) | (go_simp; rfl)); intro g5 hg5 w1 hbx hbl; have n_HB := Aside0.mk (below_step HB.out hbl); have HX := Aside0.mk hbl; have n_HO := Aside0.mk (Kd.C_below HO.out hbl); have G5 := Aside0.mk (show wr.heap.size ≤ g5 by rw [hg5]; exact Nat.le_refl _); have Y := Aside0.mk hbx; clear HB HO hbx hbl hg5; have HB := n_HB; have HO := n_HO; clear n_HB n_HO)
        | ((with_reducible refine gate_store (t := 32) (p := 5) rfl ?_); refine store_ev rfl rfl rfl (cells := #[.int .i64 x0, .int .i64 x1, .string x2, .string x3, .bool x4, .int .i64 x5, .int .i64 x6, .int .i64 x7]) rfl rfl Y.out (by kernel_rfl) rfl (by kernel_rfl) ?_; intro w2 hbx hgr; have n_R := Aside0.mk (recs_new R.out HX.out hgr G5.out); have n_HB := Aside0.mk (below_put HB.out (Nat.le_trans HBz.out G5.out) hgr HB.out.size); have n_Y := Aside0.mk hbx; clear HB Y HO hbx hgr R HX; have HB := n_HB; have Y := n_Y; have R := n_R; clear n_HB n_Y n_R; have HO := Aside0.mk (Kd.R_reads' R.out).2.2; have y2 : w2.cell? ⟨g5, 2, none⟩ = some (.string x2) := (blk_cell Y.out 2).trans rfl))
      refine (hla.out w2 (Kd.C_below HR.out HB.out)).mono ?_
      rintro e w3 ⟨rfl, hb⟩
      have n_HB := Aside0.mk (below_step HB.out hb)
      have n_R := Aside0.mk (recs_below R.out hb)
      have n_Y := Aside0.mk (blk_below Y.out hb)
      have n_HO := Aside0.mk (Kd.C_below HO.out hb)
      clear HB R Y HO hb y2
      have HB := n_HB
      have R := n_R
      have Y := n_Y
      have HO := n_HO
      clear n_HB n_R n_Y n_HO
      have y4 : w3.cell? ⟨g5, 4, none⟩ = some (.bool x4) := (blk_cell Y.out 4).trans rfl
      by_cases hfr : fr = true
      · subst hfr
        by_cases hx4 : x4 = false
        · subst hx4
          have HK2 := Aside0.mk (HK.out.trans (if_pos ⟨he, rfl, rfl⟩)); clear HK; have HK := HK2
          go_wp2_with (first
            | ((with_reducible refine gate_dst (N := 27) rfl ?_); refine load_ev (N := 27) rfl rfl rfl (cs := #[.int .i64 x0, .int .i64 x1, .string x2, .string x3, .bool false, .int .i64 x5, .int .i64 x6, .int .i64 x7]) rfl Y.out Try.underlying32 rfl (by kernel_rfl) ?_))
          refine (hpt.out w3 HO.out).mono ?_
          rintro e w4 ⟨u, rfl, hR4, hb⟩
          have n_HB := Aside0.mk (below_step HB.out hb)
          have n_R := Aside0.mk (Kd.R_lower hR4 HB.out.size)
          clear HB R hb hR4 y4 hpt
          have HB := n_HB
          have R := n_R
          clear n_HB n_R
          go_wp2_with fail
          go_roundw
          case rel => exact ⟨i + 1, putR acc ⟨x0, x1, x2, x3, false, x5, x6, x7⟩, by go_num, by omega, ⟨by rw [hpl.out]; have := HN.out; omega⟩, ⟨by rw [← HL.out]; unfold viewG; rw [HK.out]; rfl⟩, R, HB⟩
          case measure => simp [intOf]; omega
        · have hx5 : x4 = true := by simpa using hx4
          clear hx4
          subst hx5
          have HK2 := Aside0.mk (HK.out.trans (if_neg (fun h => by simp at h))); clear HK; have HK := HK2
          go_wp2_with fail
          try clear hx4
          go_roundw
          case rel => exact ⟨i + 1, acc, by go_num, by omega, ⟨Nat.le_succ_of_le HN.out⟩, ⟨by rw [← HL.out]; unfold viewG; rw [HK.out]⟩, R, HB⟩
          case measure => simp [intOf]; omega
      · have hf2 : fr = false := by simpa using hfr
        clear hfr
        subst hf2
        have HK2 := Aside0.mk (HK.out.trans (if_neg (fun h => by simp at h))); clear HK; have HK := HK2
        go_wp2_with fail
        try clear hx4
        go_roundw
        case rel => exact ⟨i + 1, acc, by go_num, by omega, ⟨Nat.le_succ_of_le HN.out⟩, ⟨by rw [← HL.out]; unfold viewG; rw [HK.out]⟩, R, HB⟩
        case measure => simp [intOf]; omega
    · obtain rfl : i = l.length := by omega
      go_wp2_with fail
      refine bodyPost_ret (results_tmp rfl _ _ _) rfl ?_
      refine ⟨_, rfl, ?_, HB.out⟩
      have e := HL.out
      rw [List.drop_length] at e
      rw [← e]
      exact R.out
end Go.Proofs.Ytgojaomldkgojaa.Cm
