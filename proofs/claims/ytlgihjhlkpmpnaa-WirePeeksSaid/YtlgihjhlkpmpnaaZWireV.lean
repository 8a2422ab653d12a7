import Derived.Test.YtlgihjhlkpmpnaaZWireU
namespace Go.Proofs.Ytlgihjhlkpmpnaa.Wire
set_option linter.unusedVariables false
set_option linter.unusedSimpArgs false
open Go.RowKit Go.Proofs.YtlgihjhlkpmpnaaW.PrintWords Go.Proofs.YtlgihjhlkpmpnaaW.PrintLast Go.Proofs.YtlgihjhlkpmpnaaW.PrintMore Go.Proofs.Ytlgihjhlkpmpnaa.Hand Go.Proofs.Ytlgihjhlkpmpnaa.PWire Go.Proofs.Ytlgihjhlkpmpnaa.PureNums
theorem c_nil (w : World) : Kd.C k102 w none 0 [] := (Kd.R_reads' (Kd.R_nil k102 102 w w.heap.size (fun _ => True))).2.2
theorem prs_nil (w : World) : Prs w none 0 0 [] := (prs_of_R (A := none) (m := 0) (ps := []) (Kd.R_nil k102 102 w w.heap.size (fun _ => True)) (by decide)).1
set_option maxHeartbeats 32000000 in
set_option maxRecDepth 100000 in
theorem list_calls (w : World) : Calls Try.prog 23 #[] w fun e w' => e = .returned (.bool true) ∧ Below w.heap.size w w' := by
  have henc := Aside0.mk (fun W : World => encode_calls rl none 0 [] W (prs_nil W) (Nat.le_refl _))
  simp only [rl_enc] at henc
  have hdec := Aside0.mk (fun W : World => decode_calls slm W (by decide +kernel))
  simp only [dec_slm] at hdec
  have hdec5 := Aside0.mk (fun W : World => decode_calls (sl.extract 0 5) W (by decide +kernel))
  simp only [dec_sl5] at hdec5
  have hpk := Aside0.mk (fun W : World => peek_calls sl W)
  simp only [peek_sl] at hpk
  have hmay := Aside0.mk (fun W : World => may_calls rl none 0 [] W (prs_nil W) (Nat.le_refl _))
  simp only [rl_may] at hmay
  have hsz : sl.size = 6 := by decide +kernel
  have hz1 : ¬ 9223372036854775807 < sl.size + (⟨#[109, 111, 114, 101]⟩ : ByteArray).size := by decide +kernel
  have hz2 : ((sl.size : Int) == 6) = true := by decide +kernel
  have hz3 : (5 : Int) ≤ (sl.size : Int) := by decide +kernel
  have hz4 : sl.toList = [0, 4, 11, 0, 5, 1] := by rw [ByteArray.toList_eq]; decide +kernel
  go_enter Try.func23, Try.ntmps23
  go_wp2_with (first
    | ((with_reducible refine gate_dst (N := 1) rfl ?_); refine box_event rfl (N := 1) rfl (cs := #[.int .i64 0, .int .i64 0, .int .i64 0, .string ⟨#[]⟩, .int .i64 0, .string ⟨#[]⟩, .int .i64 0, .string ⟨#[]⟩, .int .i64 0, .int .i64 0, .int .i64 0, .bool false, .string ⟨#[]⟩, .string ⟨#[]⟩, .int .i64 0, .int .i64 0, .int .i64 0, .int .i64 0, .int .i64 0, .slice none 0 0]) (t := 45) ?hr ?_; (case hr => first | (go_simp; done) | (go_simp; rfl)); intro g1 hg1 w1 hbx hbl; have Y := Aside0.mk hbx; have L := Aside0.mk hbl; have G := Aside0.mk (Nat.le_of_eq hg1.symm); clear hbx hbl hg1)
    | ((with_reducible refine gate_store (t := 45) (p := 1) rfl ?_); refine store_ev rfl rfl rfl (cells := #[.int .i64 rl.id, .int .i64 rl.kind, .int .i64 rl.label, .string rl.pt, .int .i64 rl.pp, .string rl.tt, .int .i64 rl.tp, .string rl.sn, .int .i64 rl.sp, .int .i64 rl.sa, .int .i64 rl.ss, .bool rl.sc, .string rl.grp, .string rl.mem, .int .i64 rl.gen, .int .i64 rl.off, .int .i64 rl.most, .int .i64 rl.prod, .int .i64 rl.seq, .slice none 0 0]) rfl rfl Y.out (by kernel_rfl) rfl (by kernel_rfl) ?_; intro w2 hbx hgr; have X := Aside0.mk hbx; have n_L := Aside0.mk (below_put L.out G.out hgr L.out.size); clear L Y G hbx hgr; have L := n_L; clear n_L)
    | ((with_reducible refine gate_dst (N := 12) rfl ?_); refine load_ev (N := 12) rfl rfl rfl (cs := #[.int .i64 rl.id, .int .i64 rl.kind, .int .i64 rl.label, .string rl.pt, .int .i64 rl.pp, .string rl.tt, .int .i64 rl.tp, .string rl.sn, .int .i64 rl.sp, .int .i64 rl.sa, .int .i64 rl.ss, .bool rl.sc, .string rl.grp, .string rl.mem, .int .i64 rl.gen, .int .i64 rl.off, .int .i64 rl.most, .int .i64 rl.prod, .int .i64 rl.seq, .slice none 0 0]) rfl X.out Try.underlying45 rfl (by kernel_rfl) ?_))

  refine (henc.out _).mono ?_
  rintro e w3 ⟨rfl, hb⟩
  have n_X := Aside0.mk (blk_below X.out hb)
  have n_L := Aside0.mk (below_step L.out hb)
  clear X L hb henc
  have X := n_X
  have L := n_L
  clear n_X n_L

  go_wp2_with fail

  refine (hdec.out _).mono ?_
  rintro e w4 ⟨u, rfl, hr, hb⟩
  obtain ⟨B, m, hu⟩ := Kd.R_slice hr
  subst hu
  have R := Aside0.mk (Kd.R_lower hr L.out.size)
  have n_X := Aside0.mk (blk_below X.out hb)
  have n_L := Aside0.mk (below_step L.out hb)
  clear X L hb hdec hr
  have X := n_X
  have L := n_L
  clear n_X n_L

  go_wp2_with (first
    | ((with_reducible refine gate_dst (N := 4) rfl ?_); refine box_event rfl (N := 4) rfl (cs := #[.int .i64 0, .int .i64 0, .int .i64 0, .string ⟨#[]⟩, .int .i64 0, .string ⟨#[]⟩, .int .i64 0, .string ⟨#[]⟩, .int .i64 0, .int .i64 0, .int .i64 0, .bool false, .string ⟨#[]⟩, .string ⟨#[]⟩, .int .i64 0, .int .i64 0, .int .i64 0, .int .i64 0, .int .i64 0, .slice none 0 0]) (t := 45) ?hr ?_; (case hr => first | (go_simp; done) | (go_simp; rfl)); intro g4 hg4 w5 hbx hbl; have n_X := Aside0.mk (blk_below X.out hbl); have n_L := Aside0.mk (below_step L.out hbl); have n_R := Aside0.mk (Kd.R_below R.out hbl); have n_D := Aside0.mk (show g1 ≠ g4 by rw [hg4]; exact Nat.ne_of_lt (blk_lt X.out)); have G4 := Aside0.mk (show w.heap.size ≤ g4 by rw [hg4]; exact L.out.size); have Y := Aside0.mk hbx; clear X L R hbx hbl hg4; have X := n_X; have L := n_L; have R := n_R; have D := n_D; clear n_X n_L n_R n_D)
    | ((with_reducible refine gate_store (t := 45) (p := 4) rfl ?_); refine store_ev rfl rfl rfl (cells := #[.int .i64 rl.id, .int .i64 rl.kind, .int .i64 rl.label, .string rl.pt, .int .i64 rl.pp, .string rl.tt, .int .i64 rl.tp, .string rl.sn, .int .i64 rl.sp, .int .i64 rl.sa, .int .i64 rl.ss, .bool rl.sc, .string rl.grp, .string rl.mem, .int .i64 rl.gen, .int .i64 rl.off, .int .i64 rl.most, .int .i64 rl.prod, .int .i64 rl.seq, .slice B 0 m]) rfl rfl Y.out (by kernel_rfl) rfl (by kernel_rfl) ?_; intro w6 hbx hgr; have n_X := Aside0.mk (grown_at hgr X.out D.out); have n_L := Aside0.mk (below_put L.out G4.out hgr L.out.size); have n_R := Aside0.mk (pairs_grown R.out hgr (fun cells e => by rw [Y.out] at e; simp at e)); have n_Y := Aside0.mk hbx; clear X L R Y hbx hgr; have X := n_X; have L := n_L; have R := n_R; have Y := n_Y; clear n_X n_L n_R n_Y))

  refine (hdec5.out _).mono ?_
  rintro e w7 ⟨u, rfl, hr, hb⟩
  obtain ⟨B7, m7, hu⟩ := Kd.R_slice hr
  subst hu
  have n_X := Aside0.mk (blk_below X.out hb)
  have n_Y := Aside0.mk (blk_below Y.out hb)
  have n_R := Aside0.mk (Kd.R_below R.out hb)
  have n_L := Aside0.mk (below_step L.out hb)
  clear X Y R L hb hdec5 hr
  have X := n_X
  have Y := n_Y
  have R := n_R
  have L := n_L
  clear n_X n_Y n_R n_L

  have hsame := Aside0.mk (fun (W : World) (hW : Kd.R k102 102 W w.heap.size (fun _ => True) (.slice B 0 m) []) => same_calls rl B none m 0 [] W (Kd.R_reads' hW).2.2 (c_nil W))

  go_wp2_with (first
    | ((with_reducible refine gate_dst (N := 7) rfl ?_); refine box_event rfl (N := 7) rfl (cs := #[.int .i64 0, .int .i64 0, .int .i64 0, .string ⟨#[]⟩, .int .i64 0, .string ⟨#[]⟩, .int .i64 0, .string ⟨#[]⟩, .int .i64 0, .int .i64 0, .int .i64 0, .bool false, .string ⟨#[]⟩, .string ⟨#[]⟩, .int .i64 0, .int .i64 0, .int .i64 0, .int .i64 0, .int .i64 0, .slice none 0 0]) (t := 45) ?hr ?_; (case hr => first | (go_simp; done) | (go_simp; rfl)); intro g7 hg7 w8 hbx hbl; have n_X := Aside0.mk (blk_below X.out hbl); have n_L := Aside0.mk (below_step L.out hbl); have n_R := Aside0.mk (Kd.R_below R.out hbl); have n_Y := Aside0.mk (blk_below Y.out hbl); have n_D := Aside0.mk (show g1 ≠ g7 by rw [hg7]; exact Nat.ne_of_lt (blk_lt X.out)); have n_D4 := Aside0.mk (show g4 ≠ g7 by rw [hg7]; exact Nat.ne_of_lt (blk_lt Y.out)); have G7 := Aside0.mk (show w.heap.size ≤ g7 by rw [hg7]; exact L.out.size); have V := Aside0.mk hbx; clear X L R Y D hbx hbl hg7; have X := n_X; have L := n_L; have R := n_R; have Y := n_Y; have D := n_D; have D4 := n_D4; clear n_X n_L n_R n_Y n_D n_D4)
    | ((with_reducible refine gate_store (t := 45) (p := 7) rfl ?_); refine store_ev rfl rfl rfl (cells := #[.int .i64 (rq0 0 0).id, .int .i64 (rq0 0 0).kind, .int .i64 (rq0 0 0).label, .string (rq0 0 0).pt, .int .i64 (rq0 0 0).pp, .string (rq0 0 0).tt, .int .i64 (rq0 0 0).tp, .string (rq0 0 0).sn, .int .i64 (rq0 0 0).sp, .int .i64 (rq0 0 0).sa, .int .i64 (rq0 0 0).ss, .bool (rq0 0 0).sc, .string (rq0 0 0).grp, .string (rq0 0 0).mem, .int .i64 (rq0 0 0).gen, .int .i64 (rq0 0 0).off, .int .i64 (rq0 0 0).most, .int .i64 (rq0 0 0).prod, .int .i64 (rq0 0 0).seq, .slice B7 0 m7]) rfl rfl V.out (by kernel_rfl) rfl (by kernel_rfl) ?_; intro w9 hbx hgr; have n_X := Aside0.mk (grown_at hgr X.out D.out); have n_Y := Aside0.mk (grown_at hgr Y.out D4.out); have n_L := Aside0.mk (below_put L.out G7.out hgr L.out.size); have n_R := Aside0.mk (pairs_grown R.out hgr (fun cells e => by rw [V.out] at e; simp at e)); clear X L R Y V D D4 hbx hgr; have X := n_X; have L := n_L; have R := n_R; have Y := n_Y; clear n_X n_L n_R n_Y)
    | ((with_reducible refine gate_dst (N := 48) rfl ?_); refine load_evg (N := 48) rfl rfl (cs := #[.int .i64 rl.id, .int .i64 rl.kind, .int .i64 rl.label, .string rl.pt, .int .i64 rl.pp, .string rl.tt, .int .i64 rl.tp, .string rl.sn, .int .i64 rl.sp, .int .i64 rl.sa, .int .i64 rl.ss, .bool rl.sc, .string rl.grp, .string rl.mem, .int .i64 rl.gen, .int .i64 rl.off, .int .i64 rl.most, .int .i64 rl.prod, .int .i64 rl.seq, .slice B 0 m]) rfl Y.out Try.underlying45 rfl (by kernel_rfl) ?hw ?_; (case hw => first | rfl | go_simp))
    | ((with_reducible refine gate_dst (N := 49) rfl ?_); refine load_evg (N := 49) rfl rfl (cs := #[.int .i64 rl.id, .int .i64 rl.kind, .int .i64 rl.label, .string rl.pt, .int .i64 rl.pp, .string rl.tt, .int .i64 rl.tp, .string rl.sn, .int .i64 rl.sp, .int .i64 rl.sa, .int .i64 rl.ss, .bool rl.sc, .string rl.grp, .string rl.mem, .int .i64 rl.gen, .int .i64 rl.off, .int .i64 rl.most, .int .i64 rl.prod, .int .i64 rl.seq, .slice none 0 0]) rfl X.out Try.underlying45 rfl (by kernel_rfl) ?hw ?_; (case hw => first | rfl | go_simp)))

  refine (hsame.out _ R.out).mono ?_
  rintro e w10 ⟨rfl, hb⟩
  have n_X := Aside0.mk (blk_below X.out hb)
  have n_L := Aside0.mk (below_step L.out hb)
  clear X L hb hsame R Y
  have X := n_X
  have L := n_L
  clear n_X n_L

  go_wp2_with fail

  refine (hpk.out _).mono ?_
  rintro e w11 ⟨rfl, hb⟩
  have n_X := Aside0.mk (blk_below X.out hb)
  have n_L := Aside0.mk (below_step L.out hb)
  clear X L hb hpk
  have X := n_X
  have L := n_L
  clear n_X n_L

  go_wp2_with (first
    | ((with_reducible refine gate_dst (N := 62) rfl ?_); refine load_evg (N := 62) rfl rfl (cs := #[.int .i64 rl.id, .int .i64 rl.kind, .int .i64 rl.label, .string rl.pt, .int .i64 rl.pp, .string rl.tt, .int .i64 rl.tp, .string rl.sn, .int .i64 rl.sp, .int .i64 rl.sa, .int .i64 rl.ss, .bool rl.sc, .string rl.grp, .string rl.mem, .int .i64 rl.gen, .int .i64 rl.off, .int .i64 rl.most, .int .i64 rl.prod, .int .i64 rl.seq, .slice none 0 0]) rfl X.out Try.underlying45 rfl (by kernel_rfl) ?hw ?_; (case hw => first | rfl | go_simp)))

  refine (hmay.out _).mono ?_
  rintro e w12 ⟨rfl, hb⟩
  have n_L := Aside0.mk (below_step L.out hb)
  clear L hb hmay X
  have L := n_L
  clear n_L

  go_wp2_with fail

  exact bodyPost_ret (results_tmp rfl _ _ _) rfl ⟨rfl, L.out⟩
end Go.Proofs.Ytlgihjhlkpmpnaa.Wire
