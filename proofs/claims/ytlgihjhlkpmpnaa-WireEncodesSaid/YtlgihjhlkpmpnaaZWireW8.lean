import Derived.Test.YtlgihjhlkpmpnaaZWireE31
import Derived.Test.YtlgihjhlkpmpnaaZWireZ8
namespace Go.Proofs.Ytlgihjhlkpmpnaa.Wire
set_option linter.unusedVariables false
set_option linter.unusedSimpArgs false
open Go.RowKit Go.Proofs.YtlgihjhlkpmpnaaW.PrintWords Go.Proofs.YtlgihjhlkpmpnaaW.PrintLast Go.Proofs.YtlgihjhlkpmpnaaW.PrintMore Go.Proofs.Ytlgihjhlkpmpnaa.Hand Go.Proofs.Ytlgihjhlkpmpnaa.PWire Go.Proofs.Ytlgihjhlkpmpnaa.PureNums
set_option maxHeartbeats 32000000 in
set_option maxRecDepth 100000 in
/-- what is not gone through -/
theorem encodes_big (x : Rq) (A : Option Addr) (k : Nat) (l : List S102) (more : ByteArray) (w : World) (hp : Prs w A l.length k l) (hb : smallB x l = false ∨ 300 < more.size) :
    Calls Try.prog 8 #[.agg #[.int .i64 x.id, .int .i64 x.kind, .int .i64 x.label, .string x.pt, .int .i64 x.pp, .string x.tt, .int .i64 x.tp, .string x.sn, .int .i64 x.sp, .int .i64 x.sa, .int .i64 x.ss, .bool x.sc, .string x.grp, .string x.mem, .int .i64 x.gen, .int .i64 x.off, .int .i64 x.most, .int .i64 x.prod, .int .i64 x.seq, .slice A l.length k], .string more] w fun e w' => e = .returned (.bool true) ∧ Below w.heap.size w w' := by
  have hund : ∀ b, some undef = some (Value.bool b) → False := fun b h => by simp [undef] at h
  have hlist := Aside0.mk (fun W : World => list_calls W)
  have hlg := Aside0.mk (fun (W : World) (hW : Below w.heap.size w W) => large_calls x A k l W (hp.below hW))
  have hb' := Aside0.mk hb
  generalize smallB x l = sb at *
  clear hb hp
  go_enter Try.func8, Try.ntmps8
  go_wp2_with (first
    | ((with_reducible refine gate_dst (N := 2) rfl ?_); refine box_event rfl (N := 2) rfl (cs := #[.int .i64 x.id, .int .i64 x.kind, .int .i64 x.label, .string x.pt, .int .i64 x.pp, .string x.tt, .int .i64 x.tp, .string x.sn, .int .i64 x.sp, .int .i64 x.sa, .int .i64 x.ss, .bool x.sc, .string x.grp, .string x.mem, .int .i64 x.gen, .int .i64 x.off, .int .i64 x.most, .int .i64 x.prod, .int .i64 x.seq, .slice A l.length k]) (t := 45) ?hr ?_; (case hr => first | (go_simp; done) | (go_simp; rfl)); intro g2 hg2 w1 hbx hbl; have HS : Aside0 (Sz w x (.slice A l.length k) g2 w1) := ⟨⟨hbx, hbl⟩⟩; clear hbx hbl hg2)
    | ((with_reducible refine gate_dst (N := 13) rfl ?_); refine load_ev (N := 13) rfl rfl rfl (cs := x.cs (.slice A l.length k)) rfl HS.out.b3 Try.underlying45 rfl (by kernel_rfl) ?_))
  refine (hlg.out _ HS.out.bl).mono ?_
  rintro e w2 ⟨rfl, hb⟩
  have n_HS := Aside0.mk (HS.out.below hb)
  clear HS hb hlg
  have HS := n_HS
  clear n_HS
  cases sb with
  | false =>
    clear hb'
    go_wp2_with fail
    refine (hlist.out _).mono ?_
    rintro e w3 ⟨rfl, hb⟩
    have L := Aside0.mk (below_step HS.out.bl hb)
    clear hb
    go_wp2_with fail
    exact bodyPost_ret (results_tmp rfl _ _ _) rfl ⟨rfl, L.out⟩
  | true =>
    have hm : (300 : Int) < (more.size : Int) := by
      rcases hb'.out with h | h
      · simp at h
      · omega
    clear hb'
    go_wp2_with fail
    refine (hlist.out _).mono ?_
    rintro e w3 ⟨rfl, hb⟩
    have L := Aside0.mk (below_step HS.out.bl hb)
    clear hb
    go_wp2_with fail
    exact bodyPost_ret (results_tmp rfl _ _ _) rfl ⟨rfl, L.out⟩
set_option maxHeartbeats 32000000 in
set_option maxRecDepth 100000 in
/-- what is gone through -/
theorem encodes_main (x : Rq) (A : Option Addr) (k : Nat) (l : List S102) (more : ByteArray) (w : World) (hp : Prs w A l.length k l) (hk : l.length ≤ k) (hs : smallB x l = true) (hmz : more.size ≤ 300) :
    Calls Try.prog 8 #[.agg #[.int .i64 x.id, .int .i64 x.kind, .int .i64 x.label, .string x.pt, .int .i64 x.pp, .string x.tt, .int .i64 x.tp, .string x.sn, .int .i64 x.sp, .int .i64 x.sa, .int .i64 x.ss, .bool x.sc, .string x.grp, .string x.mem, .int .i64 x.gen, .int .i64 x.off, .int .i64 x.most, .int .i64 x.prod, .int .i64 x.seq, .slice A l.length k], .string more] w fun e w' => e = .returned (.bool true) ∧ Below w.heap.size w w' := by
  have hund : ∀ b, some undef = some (Value.bool b) → False := fun b h => by simp [undef] at h
  have HP := Aside0.mk hp
  have hlist := Aside0.mk (fun W : World => list_calls W)
  have hlg := Aside0.mk (fun (W : World) (hW : Below w.heap.size w W) => large_calls x A k l W (hp.below hW))
  have hzz : Aside0 (x.pt.size ≤ 1000 ∧ x.tt.size ≤ 1000 ∧ x.sn.size ≤ 1000 ∧ x.grp.size ≤ 1000 ∧ x.mem.size ≤ 1000) := ⟨by
    unfold smallB at hs
    simp only [Bool.and_eq_true, decide_eq_true_eq] at hs
    omega⟩
  rw [hs] at hlg
  have hcl := Aside0.mk (fun (W : World) (hW : Below w.heap.size w W) => clean_calls x A l.length k l W (hp.below hW))
  have hqm := Aside0.mk (fun (W : World) (hW : Below w.heap.size w W) => qmay_calls x A k l W (hp.below hW))
  have hm : ¬ (300 : Int) < (more.size : Int) := by omega
  have hqc := Aside0.mk (fun W : World => qclean_calls x A l.length k W)
  obtain ⟨B2, m2, hv, hC⟩ := cleanV_all hp
  rw [hv] at hqc
  clear hv
  have hcl17 : (pairsL l (lets (formF x.kind))).length ≤ l.length := by unfold pairsL; split <;> simp
  generalize hyy : cleanL x (lets (formF x.kind)) = y at *
  generalize hpp : pairsL l (lets (formF x.kind)) = ps at *
  have Hyy := Aside0.mk hyy
  have Hpp := Aside0.mk hpp
  have HC2 := Aside0.mk hC
  clear hp hs hmz hyy hpp hC
  have hsame := Aside0.mk (fun (W : World) (B : Option Addr) (m : Nat) (h1 : Kd.R k102 102 W w.heap.size (fun _ => True) (.slice B ps.length m) ps) (h2 : Below w.heap.size w W) => same_calls y B B2 m m2 ps W (Kd.R_reads' h1).2.2 (Kd.C_below HC2.out h2))
  have hmay := Aside0.mk (fun (W : World) (hW : Below w.heap.size w W) => may_calls x A k l W (HP.out.below hW) hk)
  go_enter Try.func8, Try.ntmps8
  go_wp2_with (first
    | ((with_reducible refine gate_dst (N := 2) rfl ?_); refine box_event rfl (N := 2) rfl (cs := #[.int .i64 x.id, .int .i64 x.kind, .int .i64 x.label, .string x.pt, .int .i64 x.pp, .string x.tt, .int .i64 x.tp, .string x.sn, .int .i64 x.sp, .int .i64 x.sa, .int .i64 x.ss, .bool x.sc, .string x.grp, .string x.mem, .int .i64 x.gen, .int .i64 x.off, .int .i64 x.most, .int .i64 x.prod, .int .i64 x.seq, .slice A l.length k]) (t := 45) ?hr ?_; (case hr => first | (go_simp; done) | (go_simp; rfl)); intro g2 hg2 w1 hbx hbl; have HS : Aside0 (Sz w x (.slice A l.length k) g2 w1) := ⟨⟨hbx, hbl⟩⟩; clear hbx hbl hg2)
    | ((with_reducible refine gate_dst (N := 13) rfl ?_); refine load_ev (N := 13) rfl rfl rfl (cs := x.cs (.slice A l.length k)) rfl HS.out.b3 Try.underlying45 rfl (by kernel_rfl) ?_))
  refine (hlg.out _ HS.out.bl).mono ?_
  rintro e w2 ⟨rfl, hb⟩
  have n_HS := Aside0.mk (HS.out.below hb)
  clear HS hb hlg
  have HS := n_HS
  clear n_HS
  go_wp2_with (first
    | ((with_reducible refine gate_dst (N := 21) rfl ?_); refine load_ev (N := 21) rfl rfl rfl (cs := x.cs (.slice A l.length k)) rfl HS.out.b3 Try.underlying45 rfl (by kernel_rfl) ?_))
  refine (hcl.out _ HS.out.bl).mono ?_
  rintro e w3 ⟨u, rfl, hr, hb⟩
  obtain ⟨B, m, hu⟩ := Kd.R_slice hr
  subst hu
  have R := Aside0.mk (Kd.R_lower hr HS.out.bl.size)
  have n_HS := Aside0.mk (HS.out.below hb)
  clear HS hb hcl hr
  have HS := n_HS
  clear n_HS
  go_wp2_with (first
    | ((with_reducible refine gate_dst (N := 5) rfl ?_); refine box_event rfl (N := 5) rfl (cs := #[.int .i64 0, .int .i64 0, .int .i64 0, .string ⟨#[]⟩, .int .i64 0, .string ⟨#[]⟩, .int .i64 0, .string ⟨#[]⟩, .int .i64 0, .int .i64 0, .int .i64 0, .bool false, .string ⟨#[]⟩, .string ⟨#[]⟩, .int .i64 0, .int .i64 0, .int .i64 0, .int .i64 0, .int .i64 0, .slice none 0 0]) (t := 45) ?hr ?_; (case hr => first | (go_simp; done) | (go_simp; rfl)); intro g5 hg5 w4 hbx hbl; have n_HS := Aside0.mk (HS.out.below hbl); have n_R := Aside0.mk (Kd.R_below R.out hbl); have D := Aside0.mk (show g2 ≠ g5 by rw [hg5]; exact Nat.ne_of_lt (blk_lt HS.out.b3)); have G5 := Aside0.mk (show w.heap.size ≤ g5 by rw [hg5]; exact HS.out.bl.size); have Y := Aside0.mk hbx; clear HS R hbx hbl hg5; have HS := n_HS; have R := n_R; clear n_HS n_R)
    | ((with_reducible refine gate_store (t := 45) (p := 5) rfl ?_); refine store_ev rfl rfl rfl (cells := #[.int .i64 y.id, .int .i64 y.kind, .int .i64 y.label, .string y.pt, .int .i64 y.pp, .string y.tt, .int .i64 y.tp, .string y.sn, .int .i64 y.sp, .int .i64 y.sa, .int .i64 y.ss, .bool y.sc, .string y.grp, .string y.mem, .int .i64 y.gen, .int .i64 y.off, .int .i64 y.most, .int .i64 y.prod, .int .i64 y.seq, .slice B ps.length m]) rfl rfl Y.out (by kernel_rfl) rfl (by kernel_rfl) ?_; intro w5 hbx hgr; have n_HS : Aside0 (Sz w x (.slice A l.length k) g2 w5) := ⟨⟨grown_at hgr HS.out.b3 D.out, below_put HS.out.bl G5.out hgr HS.out.bl.size⟩⟩; have n_R := Aside0.mk (pairs_grown R.out hgr (fun cells e => by rw [Y.out] at e; simp at e)); have n_Y := Aside0.mk hbx; clear HS R Y hbx hgr; have HS := n_HS; have R := n_R; have Y := n_Y; clear n_HS n_R n_Y)
    | ((with_reducible refine gate_dst (N := 23) rfl ?_); refine load_ev (N := 23) rfl rfl rfl (cs := x.cs (.slice A l.length k)) rfl HS.out.b3 Try.underlying45 rfl (by kernel_rfl) ?_))
  refine (hqm.out _ HS.out.bl).mono ?_
  rintro e w6 ⟨rfl, hb⟩
  have n_HS := Aside0.mk (HS.out.below hb)
  have n_R := Aside0.mk (Kd.R_below R.out hb)
  have n_Y := Aside0.mk (blk_below Y.out hb)
  clear HS R Y hb hqm
  have HS := n_HS
  have R := n_R
  have Y := n_Y
  clear n_HS n_R n_Y
  go_upto_region 5 with fail
  have n_HS := Aside0.mk (HS.out.below (below_drew (Below.refl _ _)))
  have n_R := Aside0.mk (Kd.R_below R.out (below_drew (Below.refl _ _)))
  have n_Y := Aside0.mk (blk_below Y.out (below_drew (Below.refl _ _)))
  clear HS R Y
  have HS := n_HS
  have R := n_R
  have Y := n_Y
  clear n_HS n_R n_Y
  refine start_ (n := 11) (S := fun w' => w'.heap[g2]? = some (.cells (x.cs (.slice A l.length k)) 45 (0, 0)) ∧ w'.heap[g5]? = some (.cells (y.cs (.slice B ps.length m)) 45 (0, 0))) (ds := []) #[false, false, false, false, false, false, false, false, false, false, false] (by kernel_rfl) rfl rfl ⟨HS.out.b3, Y.out⟩ (fun _ => ?_)
  generalize w6.drew = V at *
  refine take_ (i := 0) (N := some 25) (v := .agg (y.cs (.slice B ps.length m))) #[true, false, false, false, false, false, false, false, false, false, false] rfl rfl (by kernel_rfl) (fun _ _ _ h => h) (Or.inl ⟨by rfl, fun w' hS => load_run' (p := 5) rfl rfl hS.2 Try.underlying45 rfl (by kernel_rfl)⟩) ⟨HS.out.b3, Y.out⟩ rfl ?_
  refine take_ (i := 1) (N := some 26) (v := .agg (x.cs (.slice A l.length k))) #[true, true, false, false, false, false, false, false, false, false, false] rfl rfl (by kernel_rfl) (fun _ _ _ h => h) (Or.inl ⟨by rfl, fun w' hS => load_run' (p := 2) rfl rfl hS.1 Try.underlying45 rfl (by kernel_rfl)⟩) ⟨HS.out.b3, Y.out⟩ rfl ?_
  refine norm_ (a' := ?_) ?_ ?_
  rotate_left
  · simp only [Act.put, List.setIfInBounds_toArray, List.set_cons_zero, List.set_cons_succ]
    rfl
  refine one_ (i := 2) (N := some 27) #[true, true, true, false, false, false, false, false, false, false, false] rfl rfl (by kernel_rfl) (by simp) (fun K hK => ?_)
  refine goes_ Try.func32 (by kernel_rfl) rfl #[.agg (x.cs (.slice A l.length k))] (by rfl) rfl rfl (by simp only [List.map_toArray, List.map_cons, List.map_nil] <;> rfl) ?_
  refine (hqc.out _).mono ?_
  rintro e W3 ⟨rfl, hb⟩
  have n_HS := Aside0.mk (HS.out.below hb)
  have n_R := Aside0.mk (Kd.R_below R.out hb)
  have n_Y := Aside0.mk (blk_below Y.out hb)
  clear HS R Y hb
  have HS := n_HS
  have R := n_R
  have Y := n_Y
  clear n_HS n_R n_Y
  refine ⟨_, rfl, hK.out _ _ ⟨HS.out.b3, Y.out⟩ (fun _ => ?_)⟩
  clear hK K hqc
  refine norm_ (a' := ?_) ?_ ?_
  rotate_left
  · simp only [Act.put, List.setIfInBounds_toArray, List.set_cons_zero, List.set_cons_succ]
    rfl
  refine one_ (i := 3) (N := some 28) #[true, true, true, true, false, false, false, false, false, false, false] rfl rfl (by kernel_rfl) (by simp) (fun K hK => ?_)
  refine goes_ Try.func21 (by kernel_rfl) rfl #[.agg (y.cs (.slice B ps.length m)), .agg (y.cs (.slice B2 ps.length m2))] (by rfl) rfl rfl (by simp only [List.map_toArray, List.map_cons, List.map_nil] <;> rfl) ?_
  refine (hsame.out _ B m R.out HS.out.bl).mono ?_
  rintro e W4 ⟨rfl, hb⟩
  have n_HS := Aside0.mk (HS.out.below hb)
  have n_R := Aside0.mk (Kd.R_below R.out hb)
  have n_Y := Aside0.mk (blk_below Y.out hb)
  clear HS R Y hb
  have HS := n_HS
  have R := n_R
  have Y := n_Y
  clear n_HS n_R n_Y
  refine ⟨_, rfl, hK.out _ _ ⟨HS.out.b3, Y.out⟩ (fun _ => ?_)⟩
  clear hK K hsame
  refine norm_ (a' := ?_) ?_ ?_
  rotate_left
  · simp only [Act.put, List.setIfInBounds_toArray, List.set_cons_zero, List.set_cons_succ]
    rfl
  refine pure_ (i := 4) (N := some 29) (v := ?_) (a' := ?_) #[true, true, true, true, true, false, false, false, false, false, false] rfl rfl (by kernel_rfl) (fun _ _ _ h => h) (Or.inl ⟨by rfl, ?_⟩) ?_ ?_
  rotate_left
  · intro w'
    go_simp
    with_reducible rfl
  rotate_left
  · simp only [Act.put, List.setIfInBounds_toArray, List.set_cons_zero, List.set_cons_succ]
    rfl
  refine pure_ (i := 5) (N := some 30) (v := ?_) (a' := ?_) #[true, true, true, true, true, true, false, false, false, false, false] rfl rfl (by kernel_rfl) (fun _ _ _ h => h) (Or.inl ⟨by rfl, ?_⟩) ?_ ?_
  rotate_left
  · intro w'
    go_simp
    with_reducible rfl
  rotate_left
  · simp only [Act.put, List.setIfInBounds_toArray, List.set_cons_zero, List.set_cons_succ]
    rfl
  refine take_ (i := 6) (N := some 31) (v := .agg (x.cs (.slice A l.length k))) #[true, true, true, true, true, true, true, false, false, false, false] rfl rfl (by kernel_rfl) (fun _ _ _ h => h) (Or.inl ⟨by rfl, fun w' hS => load_run' (p := 2) rfl rfl hS.1 Try.underlying45 rfl (by kernel_rfl)⟩) ⟨HS.out.b3, Y.out⟩ rfl ?_
  refine norm_ (a' := ?_) ?_ ?_
  rotate_left
  · simp only [Act.put, List.setIfInBounds_toArray, List.set_cons_zero, List.set_cons_succ]
    rfl
  refine pure_ (i := 8) (N := some 33) (v := ?_) (a' := ?_) #[true, true, true, true, true, true, true, false, true, false, false] rfl rfl (by kernel_rfl) (fun _ _ _ h => h) (Or.inl ⟨by rfl, ?_⟩) ?_ ?_
  rotate_left
  · intro w'
    go_simp
    with_reducible rfl
  rotate_left
  · simp only [Act.put, List.setIfInBounds_toArray, List.set_cons_zero, List.set_cons_succ]
    rfl
  refine one_ (i := 7) (N := some 32) #[true, true, true, true, true, true, true, true, true, false, false] rfl rfl (by kernel_rfl) (by simp) (fun K hK => ?_)
  refine goes_ Try.func34 (by kernel_rfl) rfl #[.agg (x.cs (.slice A l.length k))] (by rfl) rfl rfl (by simp only [List.map_toArray, List.map_cons, List.map_nil] <;> rfl) ?_
  refine (hmay.out _ HS.out.bl).mono ?_
  rintro e W5 ⟨rfl, hb⟩
  have n_HS := Aside0.mk (HS.out.below hb)
  have n_R := Aside0.mk (Kd.R_below R.out hb)
  have n_Y := Aside0.mk (blk_below Y.out hb)
  clear HS R Y hb
  have HS := n_HS
  have R := n_R
  have Y := n_Y
  clear n_HS n_R n_Y
  refine ⟨_, rfl, hK.out _ _ ⟨HS.out.b3, Y.out⟩ (fun _ => ?_)⟩
  clear hK K hmay
  refine norm_ (a' := ?_) ?_ ?_
  rotate_left
  · simp only [Act.put, List.setIfInBounds_toArray, List.set_cons_zero, List.set_cons_succ]
    rfl
  refine pure_ (i := 9) (N := some 34) (v := ?_) (a' := ?_) #[true, true, true, true, true, true, true, true, true, true, false] rfl rfl (by kernel_rfl) (fun _ _ _ h => h) (Or.inl ⟨by rfl, ?_⟩) ?_ ?_
  rotate_left
  · intro w'
    go_simp
    with_reducible rfl
  rotate_left
  · simp only [Act.put, List.setIfInBounds_toArray, List.set_cons_zero, List.set_cons_succ]
    rfl
  refine pure_ (i := 10) (N := some 35) (v := ?_) (a' := ?_) #[true, true, true, true, true, true, true, true, true, true, true] rfl rfl (by kernel_rfl) (fun _ _ _ h => h) (Or.inl ⟨by rfl, ?_⟩) ?_ ?_
  rotate_left
  · intro w'
    go_simp
    with_reducible rfl
  rotate_left
  · simp only [Act.put, List.setIfInBounds_toArray, List.set_cons_zero, List.set_cons_succ]
    rfl
  refine done_ (by kernel_rfl) ?_
  have henc := Aside0.mk (fun (W : World) (hW : Below w.heap.size w W) => encode_calls x A k l W (HP.out.below hW) hk)
  rcases enc_three x l with ⟨hmy, he⟩ | ⟨hmy, hlen, he⟩ | ⟨hmy, hlen, he⟩
  · rw [he] at henc
    rw [hmy]
    clear he hmy
    go_wp2_with (first
      | ((with_reducible refine gate_dst (N := 37) rfl ?_); refine load_ev (N := 37) rfl rfl rfl (cs := x.cs (.slice A l.length k)) rfl HS.out.b3 Try.underlying45 rfl (by kernel_rfl) ?_))
    refine (henc.out _ HS.out.bl).mono ?_
    rintro e W6 ⟨rfl, hb⟩
    have n_HS := Aside0.mk (HS.out.below hb)
    have n_R := Aside0.mk (Kd.R_below R.out hb)
    have n_Y := Aside0.mk (blk_below Y.out hb)
    clear HS R Y hb
    have HS := n_HS
    have R := n_R
    have Y := n_Y
    clear n_HS n_R n_Y
    go_wp2_with fail
    refine (hlist.out _).mono ?_
    rintro e z ⟨rfl, hb⟩
    have L := Aside0.mk (below_step HS.out.bl hb)
    clear hb
    go_wp2_with fail
    exact bodyPost_ret (results_tmp rfl _ _ _) rfl ⟨rfl, L.out⟩
  · rw [he] at henc
    have hqe := Aside0.mk (fun (W : World) (hW : Below w.heap.size w W) => qencode_calls x A k l W (HP.out.below hW) hzz.out hmy)
    rw [hmy]
    have hl1 : (1000 : Int) < ((encS x l).size : Int) := by omega
    generalize encS x l = es at *
    clear he hmy hlen
    go_wp2_with (first
      | ((with_reducible refine gate_dst (N := 37) rfl ?_); refine load_ev (N := 37) rfl rfl rfl (cs := x.cs (.slice A l.length k)) rfl HS.out.b3 Try.underlying45 rfl (by kernel_rfl) ?_))
    refine (henc.out _ HS.out.bl).mono ?_
    rintro e W6 ⟨rfl, hb⟩
    have n_HS := Aside0.mk (HS.out.below hb)
    have n_R := Aside0.mk (Kd.R_below R.out hb)
    have n_Y := Aside0.mk (blk_below Y.out hb)
    clear HS R Y hb
    have HS := n_HS
    have R := n_R
    have Y := n_Y
    clear n_HS n_R n_Y
    go_wp2_with (first
      | ((with_reducible refine gate_dst (N := 52) rfl ?_); refine load_ev (N := 52) rfl rfl rfl (cs := x.cs (.slice A l.length k)) rfl HS.out.b3 Try.underlying45 rfl (by kernel_rfl) ?_))
    refine (hqe.out _ HS.out.bl).mono ?_
    rintro e W7 ⟨rfl, hb⟩
    have n_HS := Aside0.mk (HS.out.below hb)
    have n_R := Aside0.mk (Kd.R_below R.out hb)
    have n_Y := Aside0.mk (blk_below Y.out hb)
    clear HS R Y hb
    have HS := n_HS
    have R := n_R
    have Y := n_Y
    clear n_HS n_R n_Y
    go_wp2_with fail
    refine (hlist.out _).mono ?_
    rintro e z ⟨rfl, hb⟩
    have L := Aside0.mk (below_step HS.out.bl hb)
    clear hb
    go_wp2_with fail
    exact bodyPost_ret (results_tmp rfl _ _ _) rfl ⟨rfl, L.out⟩
  · rw [he] at henc
    have hqe := Aside0.mk (fun (W : World) (hW : Below w.heap.size w W) => qencode_calls x A k l W (HP.out.below hW) hzz.out hmy)
    have hz5 := encS_size x l
    have hdc := Aside0.mk (fun W : World => decode_calls (encS x l ++ more) W (by rw [ByteArray.size_append]; omega))
    simp only [dec_enc x l hmy (by omega) more, Hyy.out, Hpp.out, ← hz5] at hdc
    have hsm := Aside0.mk (fun (W : World) (B C : Option Addr) (m n : Nat) (h1 : Kd.R k102 102 W w.heap.size (fun _ => True) (.slice B ps.length m) ps) (h2 : Kd.R k102 102 W w.heap.size (fun _ => True) (.slice C ps.length n) ps) => same_calls y B C m n ps W (Kd.R_reads' h1).2.2 (Kd.R_reads' h2).2.2)
    rw [hmy]
    have hl1 : ¬ (1000 : Int) < ((encS x l).size : Int) := by omega
    have hl2 : ¬ 9223372036854775807 < (encS x l).size + more.size := by omega
    generalize encS x l = es at *
    clear he hmy hlen hz5
    go_wp2_with (first
      | ((with_reducible refine gate_dst (N := 37) rfl ?_); refine load_ev (N := 37) rfl rfl rfl (cs := x.cs (.slice A l.length k)) rfl HS.out.b3 Try.underlying45 rfl (by kernel_rfl) ?_))
    refine (henc.out _ HS.out.bl).mono ?_
    rintro e W6 ⟨rfl, hb⟩
    have n_HS := Aside0.mk (HS.out.below hb)
    have n_R := Aside0.mk (Kd.R_below R.out hb)
    have n_Y := Aside0.mk (blk_below Y.out hb)
    clear HS R Y hb
    have HS := n_HS
    have R := n_R
    have Y := n_Y
    clear n_HS n_R n_Y
    go_wp2_with (first
      | ((with_reducible refine gate_dst (N := 52) rfl ?_); refine load_ev (N := 52) rfl rfl rfl (cs := x.cs (.slice A l.length k)) rfl HS.out.b3 Try.underlying45 rfl (by kernel_rfl) ?_))
    refine (hqe.out _ HS.out.bl).mono ?_
    rintro e W7 ⟨rfl, hb⟩
    have n_HS := Aside0.mk (HS.out.below hb)
    have n_R := Aside0.mk (Kd.R_below R.out hb)
    have n_Y := Aside0.mk (blk_below Y.out hb)
    clear HS R Y hb
    have HS := n_HS
    have R := n_R
    have Y := n_Y
    clear n_HS n_R n_Y
    go_wp2_with fail
    refine (hdc.out _).mono ?_
    rintro e W8 ⟨u, rfl, hr, hb⟩
    obtain ⟨B3, m3, hu⟩ := Kd.R_slice hr
    subst hu
    have R3 := Aside0.mk (Kd.R_lower hr HS.out.bl.size)
    clear hr hdc
    have n_HS := Aside0.mk (HS.out.below hb)
    have n_R := Aside0.mk (Kd.R_below R.out hb)
    have n_Y := Aside0.mk (blk_below Y.out hb)
    clear HS R Y hb
    have HS := n_HS
    have R := n_R
    have Y := n_Y
    clear n_HS n_R n_Y
    go_wp2_with (first
      | ((with_reducible refine gate_dst (N := 10) rfl ?_); refine box_event rfl (N := 10) rfl (cs := #[.int .i64 0, .int .i64 0, .int .i64 0, .string ⟨#[]⟩, .int .i64 0, .string ⟨#[]⟩, .int .i64 0, .string ⟨#[]⟩, .int .i64 0, .int .i64 0, .int .i64 0, .bool false, .string ⟨#[]⟩, .string ⟨#[]⟩, .int .i64 0, .int .i64 0, .int .i64 0, .int .i64 0, .int .i64 0, .slice none 0 0]) (t := 45) ?hr ?_; (case hr => first | (go_simp; done) | (go_simp; rfl)); intro g10 hg10 z1 hbx hbl; have n_HS := Aside0.mk (HS.out.below hbl); have n_R := Aside0.mk (Kd.R_below R.out hbl); have n_R3 := Aside0.mk (Kd.R_below R3.out hbl); have n_Y := Aside0.mk (blk_below Y.out hbl); have D := Aside0.mk (show g5 ≠ g10 by rw [hg10]; exact Nat.ne_of_lt (blk_lt Y.out)); have D2 := Aside0.mk (show g2 ≠ g10 by rw [hg10]; exact Nat.ne_of_lt (blk_lt HS.out.b3)); have G10 := Aside0.mk (show w.heap.size ≤ g10 by rw [hg10]; exact HS.out.bl.size); have V := Aside0.mk hbx; clear HS R R3 Y hbx hbl hg10; have HS := n_HS; have R := n_R; have R3 := n_R3; have Y := n_Y; clear n_HS n_R n_R3 n_Y)
      | ((with_reducible refine gate_store (t := 45) (p := 10) rfl ?_); refine store_ev rfl rfl rfl (cells := #[.int .i64 y.id, .int .i64 y.kind, .int .i64 y.label, .string y.pt, .int .i64 y.pp, .string y.tt, .int .i64 y.tp, .string y.sn, .int .i64 y.sp, .int .i64 y.sa, .int .i64 y.ss, .bool y.sc, .string y.grp, .string y.mem, .int .i64 y.gen, .int .i64 y.off, .int .i64 y.most, .int .i64 y.prod, .int .i64 y.seq, .slice B3 ps.length m3]) rfl rfl V.out (by kernel_rfl) rfl (by kernel_rfl) ?_; intro z2 hbx hgr; have n_HS : Aside0 (Sz w x (.slice A l.length k) g2 z2) := ⟨⟨grown_at hgr HS.out.b3 D2.out, below_put HS.out.bl G10.out hgr HS.out.bl.size⟩⟩; have n_R := Aside0.mk (pairs_grown R.out hgr (fun cells e => by rw [V.out] at e; simp at e)); have n_R3 := Aside0.mk (pairs_grown R3.out hgr (fun cells e => by rw [V.out] at e; simp at e)); have n_Y := Aside0.mk (grown_at hgr Y.out D.out); have n_V := Aside0.mk hbx; clear HS R R3 Y V hbx hgr; have HS := n_HS; have R := n_R; have R3 := n_R3; have Y := n_Y; have V := n_V; clear n_HS n_R n_R3 n_Y n_V)
      | ((with_reducible refine gate_dst (N := 86) rfl ?_); refine load_evg (N := 86) rfl rfl (cs := #[.int .i64 y.id, .int .i64 y.kind, .int .i64 y.label, .string y.pt, .int .i64 y.pp, .string y.tt, .int .i64 y.tp, .string y.sn, .int .i64 y.sp, .int .i64 y.sa, .int .i64 y.ss, .bool y.sc, .string y.grp, .string y.mem, .int .i64 y.gen, .int .i64 y.off, .int .i64 y.most, .int .i64 y.prod, .int .i64 y.seq, .slice B3 ps.length m3]) rfl V.out Try.underlying45 rfl (by kernel_rfl) ?hw ?_; (case hw => first | rfl | go_simp))
      | ((with_reducible refine gate_dst (N := 87) rfl ?_); refine load_evg (N := 87) rfl rfl (cs := #[.int .i64 y.id, .int .i64 y.kind, .int .i64 y.label, .string y.pt, .int .i64 y.pp, .string y.tt, .int .i64 y.tp, .string y.sn, .int .i64 y.sp, .int .i64 y.sa, .int .i64 y.ss, .bool y.sc, .string y.grp, .string y.mem, .int .i64 y.gen, .int .i64 y.off, .int .i64 y.most, .int .i64 y.prod, .int .i64 y.seq, .slice B ps.length m]) rfl Y.out Try.underlying45 rfl (by kernel_rfl) ?hw ?_; (case hw => first | rfl | go_simp)))
    refine (hsm.out _ B3 B m3 m R3.out R.out).mono ?_
    rintro e W9 ⟨rfl, hb⟩
    have n_HS := Aside0.mk (HS.out.below hb)
    have n_R := Aside0.mk (Kd.R_below R.out hb)
    have n_Y := Aside0.mk (blk_below Y.out hb)
    clear HS R Y hb
    have HS := n_HS
    have R := n_R
    have Y := n_Y
    clear n_HS n_R n_Y
    go_wp2_with fail
    refine (hlist.out _).mono ?_
    rintro e z ⟨rfl, hb⟩
    have L := Aside0.mk (below_step HS.out.bl hb)
    clear hb
    go_wp2_with fail
    exact bodyPost_ret (results_tmp rfl _ _ _) rfl ⟨rfl, L.out⟩
theorem encodes_calls (x : Rq) (A : Option Addr) (k : Nat) (l : List S102) (more : ByteArray) (w : World) (hp : Prs w A l.length k l) (hk : l.length ≤ k) :
    Calls Try.prog 8 #[.agg #[.int .i64 x.id, .int .i64 x.kind, .int .i64 x.label, .string x.pt, .int .i64 x.pp, .string x.tt, .int .i64 x.tp, .string x.sn, .int .i64 x.sp, .int .i64 x.sa, .int .i64 x.ss, .bool x.sc, .string x.grp, .string x.mem, .int .i64 x.gen, .int .i64 x.off, .int .i64 x.most, .int .i64 x.prod, .int .i64 x.seq, .slice A l.length k], .string more] w fun e w' => e = .returned (.bool true) ∧ Below w.heap.size w w' := by
  by_cases hs : smallB x l = true
  · by_cases hm : more.size ≤ 300
    · exact encodes_main x A k l more w hp hk hs hm
    · exact encodes_big x A k l more w hp (.inr (by omega))
  · exact encodes_big x A k l more w hp (.inl (by simpa using hs))
end Go.Proofs.Ytlgihjhlkpmpnaa.Wire
