import Derived.Test.YtlgihjhlkpmpnaaQWirePc
import Derived.Test.YtlgihjhlkpmpnaaQWireW
-- halved
namespace Go.Proofs.Ytlgihjhlkpmpnaa.Wire
set_option linter.unusedVariables false
set_option linter.unusedSimpArgs false
open Go.RowKit Go.Proofs.YtlgihjhlkpmpnaaW.PrintWords Go.Proofs.YtlgihjhlkpmpnaaW.PrintLast Go.Proofs.YtlgihjhlkpmpnaaW.PrintMore Go.Proofs.Ytlgihjhlkpmpnaa.Hand Go.Proofs.Ytlgihjhlkpmpnaa.PWire Go.Proofs.Ytlgihjhlkpmpnaa.PureNums
theorem loadp_run' {P : Program} {o : Oper} {a : Act} {W : World} {ty : TypeId} {p : Tmp} (ho : o.op = .load ty (.tmp p)) {g : Nat} (hx : a.eval (.tmp p) = .pointer (some ⟨g, 0, none⟩)) {t : TypeId} {cs ex : Array Value} {d : TypeDesc} (hg : W.heap[g]? = some (.cells (cs ++ ex) t (0, 0)))
  (hu : P.underlying ty = some d) (hd : (match d with | .struct _ | .array _ _ => true | _ => false) = true) (hi : (P.info? ty).map (·.size) = some cs.size) : (execOp a.eval o).run P W = .ok (.value (.agg cs)) W := by
 unfold execOp
 simp only [ho, hx, Instr.loadAt, Instr.sureAddr, Sem.run_bind, Sem.run_pure, Result.andThen_ok, run_loadVar_pre W g t ty cs ex (0, 0) d hg hu hd hi]
theorem far_row {w W : World} {g h : Nat} (c : w.grownBy W (some g)) (hh : w.heap.size ≤ h) (cs : Array Value) : w.grownBy (W.setRow h cs) (some g) := far_new c (grown_setRow W h cs) hh
set_option maxHeartbeats 16000000 in
set_option maxRecDepth 100000 in
theorem snext_broken (g : Nat) (held : ByteArray) (w : World) (hg : w.heap[g]? = some (prow held true)) (hz : held.size ≤ 100000000) :
  Calls Try.prog 17 #[.agg #[.string held, .bool true], .pointer (some ⟨g, 0, none⟩)] w fun e w' => e = .returned (.tuple #[.agg #[.string held, .bool true], .bool true]) ∧ w'.heap[g]? = some (prow held true) ∧ w.grownBy w' (some g) := by
 have hund : ∀ b, some undef = some (Value.bool b) → False := fun b h => by simp [undef] at h
 have hnx := Aside0.mk (fun (W : World) (h : W.heap[g]? = some (prow held true)) => next_calls g held true W h hz)
 simp only [show nextD held true = ⟨38, 0, rq0 0 0, []⟩ from rfl, show nextH held true = held from rfl, show nextB held true = true from rfl] at hnx
 have hsm := Aside0.mk (fun (W : World) (C : Option Addr) (c : Nat) => same_calls (rq0 0 0) C none c 0 [] W ⟨rfl, Nat.zero_le _, fun h => absurd h (Nat.lt_irrefl 0)⟩ (Kd.C_nil _ _))
 have G := Aside0.mk hg
 have F := Aside0.mk (far_refl w (some g))
 clear hg
 go_enter Try.func17, Try.ntmps17
 go_wp2_with (first
  | ((with_reducible refine gate_dst (N := 2) rfl ?_); refine box_event rfl (N := 2) rfl (cs := #[.string held, .bool true]) (t := 28) ?hr ?_; (case hr => first | (go_simp; done) | (go_simp; rfl)); intro g2 hg2 w1 hbx hbl; have Gg2 := Aside0.mk (show w.heap.size ≤ g2 by rw [hg2]; exact F.out.size); have Dgg2 := Aside0.mk (show g ≠ g2 by rw [hg2]; exact Nat.ne_of_lt (blk_lt G.out)); have n_G := Aside0.mk (blk_below G.out hbl); have n_F := Aside0.mk (far_below F.out hbl); clear G F; have G := n_G; have F := n_F; clear n_G n_F; have Bg2 := Aside0.mk hbx; clear hbx hbl hg2)
  | ((with_reducible refine gate_dst (N := 4) rfl ?_); refine box_event rfl (N := 4) rfl (cs := #[.string ⟨#[]⟩, .bool false]) (t := 28) ?hr ?_; (case hr => first | (go_simp; done) | (go_simp; rfl)); intro g4 hg4 w2 hbx hbl; have Gg4 := Aside0.mk (show w.heap.size ≤ g4 by rw [hg4]; exact F.out.size); have Dgg4 := Aside0.mk (show g ≠ g4 by rw [hg4]; exact Nat.ne_of_lt (blk_lt G.out)); have Dg2g4 := Aside0.mk (show g2 ≠ g4 by rw [hg4]; exact Nat.ne_of_lt (blk_lt Bg2.out)); have n_G := Aside0.mk (blk_below G.out hbl); have n_F := Aside0.mk (far_below F.out hbl); have n_Bg2 := Aside0.mk (blk_below Bg2.out hbl); clear G F Bg2; have G := n_G; have F := n_F; have Bg2 := n_Bg2; clear n_G n_F n_Bg2; have Bg4 := Aside0.mk hbx; clear hbx hbl hg4))
 refine (hnx.out _ G.out).mono ?_
 rintro e w3 ⟨u, rfl, hR, hG, hF⟩
 obtain ⟨C, c, hu⟩ := Kd.R_slice hR
 subst hu
 have n_Bg2 := Aside0.mk (grown_at hF Bg2.out (fun e => Dgg2.out e.symm))
 have n_Bg4 := Aside0.mk (grown_at hF Bg4.out (fun e => Dgg4.out e.symm))
 have n_F := Aside0.mk (far_trans F.out hF)
 have n_G := Aside0.mk (hG)
 clear Bg2 Bg4 F G hG hF hR hnx
 have Bg2 := n_Bg2
 have Bg4 := n_Bg4
 have F := n_F
 have G := n_G
 clear n_Bg2 n_Bg4 n_F n_G
 go_upto_region 3 with (first
  | ((with_reducible refine gate_dst (N := 6) rfl ?_); refine box_event rfl (N := 6) rfl (cs := #[.int .i64 0, .int .i64 0, .int .i64 0, .string ⟨#[]⟩, .int .i64 0, .string ⟨#[]⟩, .int .i64 0, .string ⟨#[]⟩, .int .i64 0, .int .i64 0, .int .i64 0, .bool false, .string ⟨#[]⟩, .string ⟨#[]⟩, .int .i64 0, .int .i64 0, .int .i64 0, .int .i64 0, .int .i64 0, .slice none 0 0]) (t := 45) ?hr ?_; (case hr => first | (go_simp; done) | (go_simp; rfl)); intro g6 hg6 w4 hbx hbl; have Gg6 := Aside0.mk (show w.heap.size ≤ g6 by rw [hg6]; exact F.out.size); have Dgg6 := Aside0.mk (show g ≠ g6 by rw [hg6]; exact Nat.ne_of_lt (blk_lt G.out)); have Dg2g6 := Aside0.mk (show g2 ≠ g6 by rw [hg6]; exact Nat.ne_of_lt (blk_lt Bg2.out)); have Dg4g6 := Aside0.mk (show g4 ≠ g6 by rw [hg6]; exact Nat.ne_of_lt (blk_lt Bg4.out)); have n_G := Aside0.mk (blk_below G.out hbl); have n_F := Aside0.mk (far_below F.out hbl); have n_Bg2 := Aside0.mk (blk_below Bg2.out hbl); have n_Bg4 := Aside0.mk (blk_below Bg4.out hbl); clear G F Bg2 Bg4; have G := n_G; have F := n_F; have Bg2 := n_Bg2; have Bg4 := n_Bg4; clear n_G n_F n_Bg2 n_Bg4; have Bg6 := Aside0.mk hbx; clear hbx hbl hg6)
  | ((with_reducible refine gate_store (t := 45) (p := 6) rfl ?_); refine store_ev rfl rfl rfl (cells := ((rq0 0 0).cs (.slice C 0 c))) rfl rfl Bg6.out (by kernel_rfl) rfl (by kernel_rfl) ?_; intro w5 hbx hgr; have n_G := Aside0.mk (grown_at hgr G.out Dgg6.out); have n_F := Aside0.mk (far_new F.out hgr Gg6.out); have n_Bg2 := Aside0.mk (grown_at hgr Bg2.out Dg2g6.out); have n_Bg4 := Aside0.mk (grown_at hgr Bg4.out Dg4g6.out); have n_Bg6 := Aside0.mk (hbx); clear G F Bg2 Bg4 Bg6 hbx hgr; have G := n_G; have F := n_F; have Bg2 := n_Bg2; have Bg4 := n_Bg4; have Bg6 := n_Bg6; clear n_G n_F n_Bg2 n_Bg4 n_Bg6; have b1 : w5.cell? ⟨g2, 1, none⟩ = some (.bool true) := (blk_cell Bg2.out 1).trans rfl)
  | (have b1 : World.cell? _ ⟨g2, 1, none⟩ = some (.bool true) := (blk_cell Bg2.out 1).trans rfl; fail))
 clear b1
 have n_G := Aside0.mk (blk_below G.out (below_drew (Below.refl _ _)))
 have n_F := Aside0.mk (far_drew F.out)
 have n_Bg2 := Aside0.mk (blk_drew Bg2.out)
 have n_Bg4 := Aside0.mk (blk_drew Bg4.out)
 have n_Bg6 := Aside0.mk (blk_drew Bg6.out)
 clear G F Bg2 Bg4 Bg6 
 have G := n_G
 have F := n_F
 have Bg2 := n_Bg2
 have Bg4 := n_Bg4
 have Bg6 := n_Bg6
 clear n_G n_F n_Bg2 n_Bg4 n_Bg6
 refine start_ (n := 10) (S := fun w' => w'.heap[g2]? = some (.cells #[.string held, .bool true] 28 (0, 0)) ∧ w'.heap[g6]? = some (.cells ((rq0 0 0).cs (.slice C 0 c)) 45 (0, 0))) (ds := []) #[false, false, false, false, false, false, false, false, false, false] (by kernel_rfl) rfl rfl ⟨Bg2.out, Bg6.out⟩ (fun _ => ?_)
 generalize w5.drew = V at *
 refine take_ (i := 0) (N := some 16) (v := .agg #[.string held, .bool true]) #[true, false, false, false, false, false, false, false, false, false] rfl rfl (by kernel_rfl) (fun _ _ _ h => h) (Or.inl ⟨by rfl, fun w' hS => load_run' (p := 2) rfl rfl hS.1 Try.underlying28 rfl (by kernel_rfl)⟩) ⟨Bg2.out, Bg6.out⟩ rfl ?_
 refine norm_ (a' := ?_) ?_ ?_
 rotate_left
 ·simp only [Act.put, List.setIfInBounds_toArray, List.set_cons_zero, List.set_cons_succ]
  rfl
 refine pure_ (i := 1) (N := some 17) (v := ?_) (a' := ?_) #[true, true, false, false, false, false, false, false, false, false] rfl rfl (by kernel_rfl) (fun _ _ _ h => h) (Or.inl ⟨by rfl, ?_⟩) ?_ ?_
 rotate_left
 ·intro w'
  go_simp
  with_reducible rfl
 rotate_left
 ·simp only [Act.put, List.setIfInBounds_toArray, List.set_cons_zero, List.set_cons_succ]
  rfl
 refine pure_ (i := 2) (N := some 18) (v := ?_) (a' := ?_) #[true, true, true, false, false, false, false, false, false, false] rfl rfl (by kernel_rfl) (fun _ _ _ h => h) (Or.inl ⟨by rfl, ?_⟩) ?_ ?_
 rotate_left
 ·intro w'
  go_simp
  with_reducible rfl
 rotate_left
 ·simp only [Act.put, List.setIfInBounds_toArray, List.set_cons_zero, List.set_cons_succ]
  rfl
 refine pure_ (i := 3) (N := some 19) (v := ?_) (a' := ?_) #[true, true, true, true, false, false, false, false, false, false] rfl rfl (by kernel_rfl) (fun _ _ _ h => h) (Or.inl ⟨by rfl, ?_⟩) ?_ ?_
 rotate_left
 ·intro w'
  go_simp
  with_reducible rfl
 rotate_left
 ·simp only [Act.put, List.setIfInBounds_toArray, List.set_cons_zero, List.set_cons_succ]
  rfl
 refine take_ (i := 4) (N := some 20) (v := .agg ((rq0 0 0).cs (.slice C 0 c))) #[true, true, true, true, true, false, false, false, false, false] rfl rfl (by kernel_rfl) (fun _ _ _ h => h) (Or.inl ⟨by rfl, fun w' hS => load_run' (p := 6) rfl rfl hS.2 Try.underlying45 rfl (by kernel_rfl)⟩) ⟨Bg2.out, Bg6.out⟩ rfl ?_
 refine norm_ (a' := ?_) ?_ ?_
 rotate_left
 ·simp only [Act.put, List.setIfInBounds_toArray, List.set_cons_zero, List.set_cons_succ]
  rfl
 refine pure_ (i := 5) (N := some 21) (v := ?_) (a' := ?_) #[true, true, true, true, true, true, false, false, false, false] rfl rfl (by kernel_rfl) (fun _ _ _ h => h) (Or.inl ⟨by rfl, ?_⟩) ?_ ?_
 rotate_left
 ·intro w'
  go_simp
  with_reducible rfl
 rotate_left
 ·simp only [Act.put, List.setIfInBounds_toArray, List.set_cons_zero, List.set_cons_succ]
  rfl
 refine one_ (i := 6) (N := some 22) #[true, true, true, true, true, true, true, false, false, false] rfl rfl (by kernel_rfl) (by simp) (fun K hK => ?_)
 refine goes_ Try.func21 (by kernel_rfl) rfl #[.agg ((rq0 0 0).cs (.slice C 0 c)), .agg ((rq0 0 0).cs (.slice none 0 0))] (by rfl) rfl rfl (by simp only [List.map_toArray, List.map_cons, List.map_nil] <;> rfl) ?_
 refine (hsm.out _ C c).mono ?_
 rintro e V2 ⟨rfl, hb⟩
 have n_G := Aside0.mk (blk_below G.out hb)
 have n_F := Aside0.mk (far_below F.out hb)
 have n_Bg2 := Aside0.mk (blk_below Bg2.out hb)
 have n_Bg4 := Aside0.mk (blk_below Bg4.out hb)
 have n_Bg6 := Aside0.mk (blk_below Bg6.out hb)
 clear G F Bg2 Bg4 Bg6 hb
 have G := n_G
 have F := n_F
 have Bg2 := n_Bg2
 have Bg4 := n_Bg4
 have Bg6 := n_Bg6
 clear n_G n_F n_Bg2 n_Bg4 n_Bg6
 refine ⟨_, rfl, hK.out _ _ ⟨Bg2.out, Bg6.out⟩ (fun _ => ?_)⟩
 clear hK K
 refine norm_ (a' := ?_) ?_ ?_
 rotate_left
 ·simp only [Act.put, List.setIfInBounds_toArray, List.set_cons_zero, List.set_cons_succ]
  rfl
 refine pure_ (i := 7) (N := some 23) (v := ?_) (a' := ?_) #[true, true, true, true, true, true, true, true, false, false] rfl rfl (by kernel_rfl) (fun _ _ _ h => h) (Or.inl ⟨by rfl, ?_⟩) ?_ ?_
 rotate_left
 ·intro w'
  go_simp
  with_reducible rfl
 rotate_left
 ·simp only [Act.put, List.setIfInBounds_toArray, List.set_cons_zero, List.set_cons_succ]
  rfl
 refine one_ (i := 8) (N := none) #[true, true, true, true, true, true, true, true, true, false] rfl rfl (by kernel_rfl) (by simp) (fun K hK => ?_)
 refine skip_ (by rfl) rfl (store_run' (p := 4) (q := .tmp 16) (cells := #[.string held, .bool true]) rfl rfl rfl Bg4.out (by kernel_rfl) rfl (by kernel_rfl)) (hK.out _ _ ⟨(setRow_other _ _ _ _ Dg2g4.out).trans Bg2.out, (setRow_other _ _ _ _ (Ne.symm Dg4g6.out)).trans Bg6.out⟩ (fun _ => ?_))
 clear hK K
 refine pure_ (i := 9) (N := some 5) (v := ?_) (a' := ?_) #[true, true, true, true, true, true, true, true, true, true] rfl rfl (by kernel_rfl) (fun _ _ _ h => h) (Or.inl ⟨by rfl, ?_⟩) ?_ ?_
 rotate_left
 ·intro w'
  go_simp
  with_reducible rfl
 rotate_left
 ·simp only [Act.put, List.setIfInBounds_toArray, List.set_cons_zero, List.set_cons_succ]
  rfl
 refine done_ (by kernel_rfl) ?_
 go_wp2_with fail
 refine bodyPost_ret (results_ct rfl _ _ g4 28 #[.string held, .bool true] (0, 0) _ rfl (setRow_heap _ g4 _ _ _ _ Bg4.out) Try.underlying28 rfl (by kernel_rfl)) rfl ?_
 exact ⟨rfl, (setRow_other _ _ _ _ Dgg4.out).trans G.out, far_row F.out Gg4.out _⟩
set_option maxHeartbeats 32000000 in
set_option maxRecDepth 100000 in
theorem snext_calls (g : Nat) (held : ByteArray) (w : World) (hg : w.heap[g]? = some (prow held false)) (hz : held.size ≤ 100000000) :
  Calls Try.prog 17 #[.agg #[.string held, .bool false], .pointer (some ⟨g, 0, none⟩)] w fun e w' => e = .returned (.tuple #[.agg #[.string (cutS held), .bool ((decW held).err == 38)], .bool true]) ∧ w'.heap[g]? = some (prow (cutS held) ((decW held).err == 38)) ∧ w.grownBy w' (some g) := by
 have hund : ∀ b, some undef = some (Value.bool b) → False := fun b h => by simp [undef] at h
 have hnx := Aside0.mk (fun (W : World) (h : W.heap[g]? = some (prow held false)) => next_calls g held false W h hz)
 simp only [show nextD held false = decW held from rfl, show nextH held false = cutS held from rfl, show nextB held false = ((decW held).err == 38) from rfl] at hnx
 have hq := Aside0.mk (fun (W : World) => qdecode_calls held W hz)
 simp only [← decWQ, gotV] at hq
 have hn : 0 ≤ (decW held).n ∧ (decW held).n ≤ held.size := by
  rcases dec_cases held with ⟨_, h, _⟩ | ⟨_, _, h1, _, h2, _⟩ <;> omega
 have hcut : Aside0 (cutS held = held.extract (decW held).n.toNat held.size) := ⟨rfl⟩
 obtain ⟨y, hy⟩ : ∃ y, (decW held).y = y := ⟨_, rfl⟩
 obtain ⟨ps, hps⟩ : ∃ ps, (decW held).ps = ps := ⟨_, rfl⟩
 obtain ⟨er, her⟩ : ∃ er, (decW held).err = er := ⟨_, rfl⟩
 obtain ⟨n, hnn⟩ : ∃ n : Nat, (decW held).n = n := ⟨(decW held).n.toNat, by omega⟩
 have hn1 : n ≤ held.size := by omega
 rw [hnn, Int.toNat_natCast] at hcut
 simp only [hy, hps, her, hnn, hcut.out] at hq hnx ⊢
 clear hcut hy hps her hnn hn
 obtain ⟨rest, hcc⟩ : ∃ rest, held.extract n held.size = rest := ⟨_, rfl⟩
 simp only [hcc] at hnx ⊢
 have hsm := Aside0.mk (fun (W : World) (B C : Option Addr) (b c : Nat) (h1 : Kd.R k102 102 W w.heap.size (fun _ => True) (.slice B ps.length b) ps) (h2 : Kd.R k102 102 W w.heap.size (fun _ => True) (.slice C ps.length c) ps) => same_calls y B C b c ps W (Kd.R_reads' h1).2.2 (Kd.R_reads' h2).2.2)
 have G := Aside0.mk hg
 have F := Aside0.mk (far_refl w (some g))
 clear hg
 go_enter Try.func17, Try.ntmps17
 go_wp2_with (first
  | ((with_reducible refine gate_dst (N := 2) rfl ?_); refine box_event rfl (N := 2) rfl (cs := #[.string held, .bool false]) (t := 28) ?hr ?_; (case hr => first | (go_simp; done) | (go_simp; rfl)); intro g2 hg2 w1 hbx hbl; have Gg2 := Aside0.mk (show w.heap.size ≤ g2 by rw [hg2]; exact F.out.size); have Dgg2 := Aside0.mk (show g ≠ g2 by rw [hg2]; exact Nat.ne_of_lt (blk_lt G.out)); have n_G := Aside0.mk (blk_below G.out hbl); have n_F := Aside0.mk (far_below F.out hbl); clear G F; have G := n_G; have F := n_F; clear n_G n_F; have Bg2 := Aside0.mk hbx; clear hbx hbl hg2)
  | ((with_reducible refine gate_dst (N := 4) rfl ?_); refine box_event rfl (N := 4) rfl (cs := #[.string ⟨#[]⟩, .bool false]) (t := 28) ?hr ?_; (case hr => first | (go_simp; done) | (go_simp; rfl)); intro g4 hg4 w2 hbx hbl; have Gg4 := Aside0.mk (show w.heap.size ≤ g4 by rw [hg4]; exact F.out.size); have Dgg4 := Aside0.mk (show g ≠ g4 by rw [hg4]; exact Nat.ne_of_lt (blk_lt G.out)); have Dg2g4 := Aside0.mk (show g2 ≠ g4 by rw [hg4]; exact Nat.ne_of_lt (blk_lt Bg2.out)); have n_G := Aside0.mk (blk_below G.out hbl); have n_F := Aside0.mk (far_below F.out hbl); have n_Bg2 := Aside0.mk (blk_below Bg2.out hbl); clear G F Bg2; have G := n_G; have F := n_F; have Bg2 := n_Bg2; clear n_G n_F n_Bg2; have Bg4 := Aside0.mk hbx; clear hbx hbl hg4))
 refine (hnx.out _ G.out).mono ?_
 rintro e w3 ⟨u, rfl, hR, hG, hF⟩
 obtain ⟨B, b, hu⟩ := Kd.R_slice hR
 subst hu
 have R := Aside0.mk (Kd.R_lower hR F.out.size)
 have n_Bg2 := Aside0.mk (grown_at hF Bg2.out (fun e => Dgg2.out e.symm))
 have n_Bg4 := Aside0.mk (grown_at hF Bg4.out (fun e => Dgg4.out e.symm))
 have n_F := Aside0.mk (far_trans F.out hF)
 have n_G := Aside0.mk (hG)
 clear Bg2 Bg4 F G hG hF hR hnx
 have Bg2 := n_Bg2
 have Bg4 := n_Bg4
 have F := n_F
 have G := n_G
 clear n_Bg2 n_Bg4 n_F n_G
 go_wp2_with (first
  | ((with_reducible refine gate_dst (N := 6) rfl ?_); refine box_event rfl (N := 6) rfl (cs := #[.int .i64 0, .int .i64 0, .int .i64 0, .string ⟨#[]⟩, .int .i64 0, .string ⟨#[]⟩, .int .i64 0, .string ⟨#[]⟩, .int .i64 0, .int .i64 0, .int .i64 0, .bool false, .string ⟨#[]⟩, .string ⟨#[]⟩, .int .i64 0, .int .i64 0, .int .i64 0, .int .i64 0, .int .i64 0, .slice none 0 0]) (t := 45) ?hr ?_; (case hr => first | (go_simp; done) | (go_simp; rfl)); intro g6 hg6 w4 hbx hbl; have Gg6 := Aside0.mk (show w.heap.size ≤ g6 by rw [hg6]; exact F.out.size); have Dgg6 := Aside0.mk (show g ≠ g6 by rw [hg6]; exact Nat.ne_of_lt (blk_lt G.out)); have Dg2g6 := Aside0.mk (show g2 ≠ g6 by rw [hg6]; exact Nat.ne_of_lt (blk_lt Bg2.out)); have Dg4g6 := Aside0.mk (show g4 ≠ g6 by rw [hg6]; exact Nat.ne_of_lt (blk_lt Bg4.out)); have n_G := Aside0.mk (blk_below G.out hbl); have n_F := Aside0.mk (far_below F.out hbl); have n_Bg2 := Aside0.mk (blk_below Bg2.out hbl); have n_Bg4 := Aside0.mk (blk_below Bg4.out hbl); have n_R := Aside0.mk (Kd.R_below R.out hbl); clear R; have R := n_R; clear n_R; clear G F Bg2 Bg4; have G := n_G; have F := n_F; have Bg2 := n_Bg2; have Bg4 := n_Bg4; clear n_G n_F n_Bg2 n_Bg4; have Bg6 := Aside0.mk hbx; clear hbx hbl hg6)
  | ((with_reducible refine gate_store (t := 45) (p := 6) rfl ?_); refine store_ev rfl rfl rfl (cells := #[.int .i64 y.id, .int .i64 y.kind, .int .i64 y.label, .string y.pt, .int .i64 y.pp, .string y.tt, .int .i64 y.tp, .string y.sn, .int .i64 y.sp, .int .i64 y.sa, .int .i64 y.ss, .bool y.sc, .string y.grp, .string y.mem, .int .i64 y.gen, .int .i64 y.off, .int .i64 y.most, .int .i64 y.prod, .int .i64 y.seq, .slice B ps.length b]) rfl rfl Bg6.out (by kernel_rfl) rfl (by kernel_rfl) ?_; intro w5 hbx hgr; have n_G := Aside0.mk (grown_at hgr G.out Dgg6.out); have n_F := Aside0.mk (far_new F.out hgr Gg6.out); have n_Bg2 := Aside0.mk (grown_at hgr Bg2.out Dg2g6.out); have n_Bg4 := Aside0.mk (grown_at hgr Bg4.out Dg4g6.out); have n_R := Aside0.mk (pairs_grown R.out hgr (fun cells e => by rw [Bg6.out] at e; simp at e)); have n_Bg6 := Aside0.mk (hbx); clear G F Bg2 Bg4 R Bg6 hbx hgr; have G := n_G; have F := n_F; have Bg2 := n_Bg2; have Bg4 := n_Bg4; have R := n_R; have Bg6 := n_Bg6; clear n_G n_F n_Bg2 n_Bg4 n_R n_Bg6; have b1 : w5.cell? ⟨g2, 1, none⟩ = some (.bool false) := (blk_cell Bg2.out 1).trans rfl; have b0 : w5.cell? ⟨g2, 0, none⟩ = some (.string held) := (blk_cell Bg2.out 0).trans rfl))
 refine (hq.out _).mono ?_
 rintro e w6 ⟨u, rfl, hR, hb⟩
 obtain ⟨C, c, hu⟩ := Kd.R_slice hR
 subst hu
 clear b0 b1 hq
 have R2 := Aside0.mk (Kd.R_lower hR F.out.size)
 have n_Bg2 := Aside0.mk (blk_below Bg2.out hb)
 have n_Bg4 := Aside0.mk (blk_below Bg4.out hb)
 have n_Bg6 := Aside0.mk (blk_below Bg6.out hb)
 have n_F := Aside0.mk (far_below F.out hb)
 have n_G := Aside0.mk (blk_below G.out hb)
 have n_R := Aside0.mk (Kd.R_below R.out hb)
 clear Bg2 Bg4 Bg6 F G R hb hR
 have Bg2 := n_Bg2
 have Bg4 := n_Bg4
 have Bg6 := n_Bg6
 have F := n_F
 have G := n_G
 have R := n_R
 clear n_Bg2 n_Bg4 n_Bg6 n_F n_G n_R
 go_upto_region 7 with (first
  | ((with_reducible refine gate_dst (N := 8) rfl ?_); refine box_event rfl (N := 8) rfl (cs := #[.int .i64 0, .int .i64 0, .int .i64 0, .string ⟨#[]⟩, .int .i64 0, .string ⟨#[]⟩, .int .i64 0, .string ⟨#[]⟩, .int .i64 0, .int .i64 0, .int .i64 0, .bool false, .string ⟨#[]⟩, .string ⟨#[]⟩, .int .i64 0, .int .i64 0, .int .i64 0, .int .i64 0, .int .i64 0, .slice none 0 0, .int .i64 0, .int .i64 0]) (t := 54) ?hr ?_; (case hr => first | (go_simp; done) | (go_simp; rfl)); intro g8 hg8 w7 hbx hbl; have Gg8 := Aside0.mk (show w.heap.size ≤ g8 by rw [hg8]; exact F.out.size); have Dgg8 := Aside0.mk (show g ≠ g8 by rw [hg8]; exact Nat.ne_of_lt (blk_lt G.out)); have Dg2g8 := Aside0.mk (show g2 ≠ g8 by rw [hg8]; exact Nat.ne_of_lt (blk_lt Bg2.out)); have Dg4g8 := Aside0.mk (show g4 ≠ g8 by rw [hg8]; exact Nat.ne_of_lt (blk_lt Bg4.out)); have Dg6g8 := Aside0.mk (show g6 ≠ g8 by rw [hg8]; exact Nat.ne_of_lt (blk_lt Bg6.out)); have n_G := Aside0.mk (blk_below G.out hbl); have n_F := Aside0.mk (far_below F.out hbl); have n_Bg2 := Aside0.mk (blk_below Bg2.out hbl); have n_Bg4 := Aside0.mk (blk_below Bg4.out hbl); have n_Bg6 := Aside0.mk (blk_below Bg6.out hbl); have n_R := Aside0.mk (Kd.R_below R.out hbl); have n_R2 := Aside0.mk (Kd.R_below R2.out hbl); clear R R2; have R := n_R; have R2 := n_R2; clear n_R n_R2; clear G F Bg2 Bg4 Bg6; have G := n_G; have F := n_F; have Bg2 := n_Bg2; have Bg4 := n_Bg4; have Bg6 := n_Bg6; clear n_G n_F n_Bg2 n_Bg4 n_Bg6; have Bg8 := Aside0.mk hbx; clear hbx hbl hg8)
  | ((with_reducible refine gate_store (t := 54) (p := 8) rfl ?_); refine store_ev rfl rfl rfl (cells := (#[.int .i64 y.id, .int .i64 y.kind, .int .i64 y.label, .string y.pt, .int .i64 y.pp, .string y.tt, .int .i64 y.tp, .string y.sn, .int .i64 y.sp, .int .i64 y.sa, .int .i64 y.ss, .bool y.sc, .string y.grp, .string y.mem, .int .i64 y.gen, .int .i64 y.off, .int .i64 y.most, .int .i64 y.prod, .int .i64 y.seq, .slice C ps.length c] ++ #[.int .i64 n, .int .i64 er])) rfl rfl Bg8.out (by kernel_rfl) rfl (by kernel_rfl) ?_; intro w8 hbx hgr; have n_G := Aside0.mk (grown_at hgr G.out Dgg8.out); have n_F := Aside0.mk (far_new F.out hgr Gg8.out); have n_Bg2 := Aside0.mk (grown_at hgr Bg2.out Dg2g8.out); have n_Bg4 := Aside0.mk (grown_at hgr Bg4.out Dg4g8.out); have n_Bg6 := Aside0.mk (grown_at hgr Bg6.out Dg6g8.out); have n_R := Aside0.mk (pairs_grown R.out hgr (fun cells e => by rw [Bg8.out] at e; simp at e)); have n_R2 := Aside0.mk (pairs_grown R2.out hgr (fun cells e => by rw [Bg8.out] at e; simp at e)); clear R2; have R2 := n_R2; clear n_R2; have n_Bg8 := Aside0.mk (hbx); clear G F Bg2 Bg4 Bg6 R Bg8 hbx hgr; have G := n_G; have F := n_F; have Bg2 := n_Bg2; have Bg4 := n_Bg4; have Bg6 := n_Bg6; have R := n_R; have Bg8 := n_Bg8; clear n_G n_F n_Bg2 n_Bg4 n_Bg6 n_R n_Bg8; have b0 : w8.cell? ⟨g2, 0, none⟩ = some (.string held) := (blk_cell Bg2.out 0).trans rfl; have b8 : w8.cell? ⟨g8, 20, none⟩ = some (.int .i64 n) := (blk_cell Bg8.out 20).trans rfl; have b9 : w8.cell? ⟨g8, 21, none⟩ = some (.int .i64 er) := (blk_cell Bg8.out 21).trans rfl; have b1 : w8.cell? ⟨g2, 1, none⟩ = some (.bool false) := (blk_cell Bg2.out 1).trans rfl; have z0 : w8.frozen? ⟨g2, 0, none⟩ = false := blk_frozen Bg2.out 0)
  | ((with_reducible refine gate_store (t := 9) (p := 32) rfl ?_); refine fstore_ev rfl rfl rfl (g := g2) (j := 0) (u := .string rest) Bg2.out ?hr ?_; (case hr => first | (go_simp; done) | (go_simp; rfl)); intro w9 hbx hgr; have n_Bg4 := Aside0.mk (grown_at hgr Bg4.out (Ne.symm Dg2g4.out)); have n_Bg6 := Aside0.mk (grown_at hgr Bg6.out (Ne.symm Dg2g6.out)); have n_Bg8 := Aside0.mk (grown_at hgr Bg8.out (Ne.symm Dg2g8.out)); have n_G := Aside0.mk (grown_at hgr G.out Dgg2.out); have n_F := Aside0.mk (far_new F.out hgr Gg2.out); have n_R := Aside0.mk (pairs_grown R.out hgr (fun cells e => by rw [Bg2.out] at e; simp at e)); have n_R2 := Aside0.mk (pairs_grown R2.out hgr (fun cells e => by rw [Bg2.out] at e; simp at e)); have n_Bg2 := Aside0.mk (hbx); clear Bg4 Bg6 Bg8 G F R R2 Bg2 hbx hgr b0 b1 b8 b9 z0; have Bg4 := n_Bg4; have Bg6 := n_Bg6; have Bg8 := n_Bg8; have G := n_G; have F := n_F; have R := n_R; have R2 := n_R2; have Bg2 := n_Bg2; clear n_Bg4 n_Bg6 n_Bg8 n_G n_F n_R n_R2 n_Bg2; have b1 : w9.cell? ⟨g2, 1, none⟩ = some (.bool false) := (blk_cell Bg2.out 1).trans rfl; have z1 : w9.frozen? ⟨g2, 1, none⟩ = false := blk_frozen Bg2.out 1; have b9 : w9.cell? ⟨g8, 21, none⟩ = some (.int .i64 er) := (blk_cell Bg8.out 21).trans rfl)
  | ((with_reducible refine gate_store (t := 4) (p := 36) rfl ?_); refine fstore_ev rfl rfl rfl (g := g2) (j := 1) (u := .bool (er == 38)) Bg2.out ?hr ?_; (case hr => first | (go_simp; done) | (go_simp; rfl)); intro w10 hbx hgr; have n_Bg4 := Aside0.mk (grown_at hgr Bg4.out (Ne.symm Dg2g4.out)); have n_Bg6 := Aside0.mk (grown_at hgr Bg6.out (Ne.symm Dg2g6.out)); have n_Bg8 := Aside0.mk (grown_at hgr Bg8.out (Ne.symm Dg2g8.out)); have n_G := Aside0.mk (grown_at hgr G.out Dgg2.out); have n_F := Aside0.mk (far_new F.out hgr Gg2.out); have n_R := Aside0.mk (pairs_grown R.out hgr (fun cells e => by rw [Bg2.out] at e; simp at e)); have n_R2 := Aside0.mk (pairs_grown R2.out hgr (fun cells e => by rw [Bg2.out] at e; simp at e)); have n_Bg2 := Aside0.mk (hbx); clear Bg4 Bg6 Bg8 G F R R2 Bg2 hbx hgr b1 b9 z1; have Bg4 := n_Bg4; have Bg6 := n_Bg6; have Bg8 := n_Bg8; have G := n_G; have F := n_F; have R := n_R; have R2 := n_R2; have Bg2 := n_Bg2; clear n_Bg4 n_Bg6 n_Bg8 n_G n_F n_R n_R2 n_Bg2))
 have n_G := Aside0.mk (blk_below G.out (below_drew (Below.refl _ _)))
 have n_F := Aside0.mk (far_drew F.out)
 have n_R := Aside0.mk (Kd.R_below R.out (below_drew (Below.refl _ _)))
 have n_R2 := Aside0.mk (Kd.R_below R2.out (below_drew (Below.refl _ _)))
 have n_Bg2 := Aside0.mk (blk_drew Bg2.out)
 have n_Bg4 := Aside0.mk (blk_drew Bg4.out)
 have n_Bg6 := Aside0.mk (blk_drew Bg6.out)
 have n_Bg8 := Aside0.mk (blk_drew Bg8.out)
 clear G F R R2 Bg2 Bg4 Bg6 Bg8 
 have G := n_G
 have F := n_F
 have R := n_R
 have R2 := n_R2
 have Bg2 := n_Bg2
 have Bg4 := n_Bg4
 have Bg6 := n_Bg6
 have Bg8 := n_Bg8
 clear n_G n_F n_R n_R2 n_Bg2 n_Bg4 n_Bg6 n_Bg8
 refine start_ (n := 13) (S := fun w' => w'.heap[g2]? = some (.cells #[.string rest, .bool (er == 38)] 28 (0, 0)) ∧ w'.heap[g6]? = some (.cells #[.int .i64 y.id, .int .i64 y.kind, .int .i64 y.label, .string y.pt, .int .i64 y.pp, .string y.tt, .int .i64 y.tp, .string y.sn, .int .i64 y.sp, .int .i64 y.sa, .int .i64 y.ss, .bool y.sc, .string y.grp, .string y.mem, .int .i64 y.gen, .int .i64 y.off, .int .i64 y.most, .int .i64 y.prod, .int .i64 y.seq, .slice B ps.length b] 45 (0, 0)) ∧ w'.heap[g8]? = some (.cells (#[.int .i64 y.id, .int .i64 y.kind, .int .i64 y.label, .string y.pt, .int .i64 y.pp, .string y.tt, .int .i64 y.tp, .string y.sn, .int .i64 y.sp, .int .i64 y.sa, .int .i64 y.ss, .bool y.sc, .string y.grp, .string y.mem, .int .i64 y.gen, .int .i64 y.off, .int .i64 y.most, .int .i64 y.prod, .int .i64 y.seq, .slice C ps.length c] ++ #[.int .i64 n, .int .i64 er]) 54 (0, 0))) (ds := []) #[false, false, false, false, false, false, false, false, false, false, false, false, false] (by kernel_rfl) rfl rfl ⟨Bg2.out, Bg6.out, Bg8.out⟩ (fun _ => ?_)
 generalize w10.drew = V at *
 refine take_ (i := 0) (N := some 37) (v := .agg #[.string rest, .bool (er == 38)]) #[true, false, false, false, false, false, false, false, false, false, false, false, false] rfl rfl (by kernel_rfl) (fun _ _ _ h => h) (Or.inl ⟨by rfl, fun w' hS => load_run' (p := 2) rfl rfl hS.1 Try.underlying28 rfl (by kernel_rfl)⟩) ⟨Bg2.out, Bg6.out, Bg8.out⟩ rfl ?_
 refine norm_ (a' := ?_) ?_ ?_
 rotate_left
 ·simp only [Act.put, List.setIfInBounds_toArray, List.set_cons_zero, List.set_cons_succ]
  rfl
 refine pure_ (i := 1) (N := some 38) (v := ?_) (a' := ?_) #[true, true, false, false, false, false, false, false, false, false, false, false, false] rfl rfl (by kernel_rfl) (fun _ _ _ h => h) (Or.inl ⟨by rfl, ?_⟩) ?_ ?_
 rotate_left
 ·intro w'
  go_simp
  with_reducible rfl
 rotate_left
 ·simp only [Act.put, List.setIfInBounds_toArray, List.set_cons_zero, List.set_cons_succ]
  rfl
 refine pure_ (i := 2) (N := some 39) (v := ?_) (a' := ?_) #[true, true, true, false, false, false, false, false, false, false, false, false, false] rfl rfl (by kernel_rfl) (fun _ _ _ h => h) (Or.inl ⟨by rfl, ?_⟩) ?_ ?_
 rotate_left
 ·intro w'
  go_simp
  with_reducible rfl
 rotate_left
 ·simp only [Act.put, List.setIfInBounds_toArray, List.set_cons_zero, List.set_cons_succ]
  rfl
 refine take_ (i := 3) (N := some 40) (v := .int .i64 er) #[true, true, true, true, false, false, false, false, false, false, false, false, false] rfl rfl (by kernel_rfl) (fun _ _ _ h => h) (Or.inl ⟨by rfl, fun w' hS => ?_⟩) ⟨Bg2.out, Bg6.out, Bg8.out⟩ rfl ?_
 ·have hcell : w'.cell? ⟨g8, 21, none⟩ = some (.int .i64 er) := (blk_cell hS.2.2 21).trans rfl
  first
  | (go_simp; done)
  | (go_simp; rfl)
 refine norm_ (a' := ?_) ?_ ?_
 rotate_left
 ·simp only [Act.put, List.setIfInBounds_toArray, List.set_cons_zero, List.set_cons_succ]
  rfl
 refine pure_ (i := 4) (N := some 41) (v := ?_) (a' := ?_) #[true, true, true, true, true, false, false, false, false, false, false, false, false] rfl rfl (by kernel_rfl) (fun _ _ _ h => h) (Or.inl ⟨by rfl, ?_⟩) ?_ ?_
 rotate_left
 ·intro w'
  go_simp
  with_reducible rfl
 rotate_left
 ·simp only [Act.put, List.setIfInBounds_toArray, List.set_cons_zero, List.set_cons_succ]
  rfl
 refine pure_ (i := 5) (N := some 42) (v := ?_) (a' := ?_) #[true, true, true, true, true, true, false, false, false, false, false, false, false] rfl rfl (by kernel_rfl) (fun _ _ _ h => h) (Or.inl ⟨by rfl, ?_⟩) ?_ ?_
 rotate_left
 ·intro w'
  go_simp
  with_reducible rfl
 rotate_left
 ·simp only [Act.put, List.setIfInBounds_toArray, List.set_cons_zero, List.set_cons_succ]
  rfl
 refine take_ (i := 6) (N := some 43) (v := .agg #[.int .i64 y.id, .int .i64 y.kind, .int .i64 y.label, .string y.pt, .int .i64 y.pp, .string y.tt, .int .i64 y.tp, .string y.sn, .int .i64 y.sp, .int .i64 y.sa, .int .i64 y.ss, .bool y.sc, .string y.grp, .string y.mem, .int .i64 y.gen, .int .i64 y.off, .int .i64 y.most, .int .i64 y.prod, .int .i64 y.seq, .slice B ps.length b]) #[true, true, true, true, true, true, true, false, false, false, false, false, false] rfl rfl (by kernel_rfl) (fun _ _ _ h => h) (Or.inl ⟨by rfl, fun w' hS => load_run' (p := 6) rfl rfl hS.2.1 Try.underlying45 rfl (by kernel_rfl)⟩) ⟨Bg2.out, Bg6.out, Bg8.out⟩ rfl ?_
 refine norm_ (a' := ?_) ?_ ?_
 rotate_left
 ·simp only [Act.put, List.setIfInBounds_toArray, List.set_cons_zero, List.set_cons_succ]
  rfl
 refine pure_ (i := 7) (N := some 44) (v := ?_) (a' := ?_) #[true, true, true, true, true, true, true, true, false, false, false, false, false] rfl rfl (by kernel_rfl) (fun _ _ _ h => h) (Or.inl ⟨by rfl, ?_⟩) ?_ ?_
 rotate_left
 ·intro w'
  go_simp
  with_reducible rfl
 rotate_left
 ·simp only [Act.put, List.setIfInBounds_toArray, List.set_cons_zero, List.set_cons_succ]
  rfl
 refine take_ (i := 8) (N := some 45) (v := .agg #[.int .i64 y.id, .int .i64 y.kind, .int .i64 y.label, .string y.pt, .int .i64 y.pp, .string y.tt, .int .i64 y.tp, .string y.sn, .int .i64 y.sp, .int .i64 y.sa, .int .i64 y.ss, .bool y.sc, .string y.grp, .string y.mem, .int .i64 y.gen, .int .i64 y.off, .int .i64 y.most, .int .i64 y.prod, .int .i64 y.seq, .slice C ps.length c]) #[true, true, true, true, true, true, true, true, true, false, false, false, false] rfl rfl (by kernel_rfl) (fun _ _ _ h => h) (Or.inl ⟨by rfl, fun w' hS => loadp_run' (p := 44) (ex := #[.int .i64 n, .int .i64 er]) rfl rfl hS.2.2 Try.underlying45 rfl (by kernel_rfl)⟩) ⟨Bg2.out, Bg6.out, Bg8.out⟩ rfl ?_
 refine norm_ (a' := ?_) ?_ ?_
 rotate_left
 ·simp only [Act.put, List.setIfInBounds_toArray, List.set_cons_zero, List.set_cons_succ]
  rfl
 refine one_ (i := 9) (N := some 46) #[true, true, true, true, true, true, true, true, true, true, false, false, false] rfl rfl (by kernel_rfl) (by simp) (fun K hK => ?_)
 refine goes_ Try.func21 (by kernel_rfl) rfl #[.agg #[.int .i64 y.id, .int .i64 y.kind, .int .i64 y.label, .string y.pt, .int .i64 y.pp, .string y.tt, .int .i64 y.tp, .string y.sn, .int .i64 y.sp, .int .i64 y.sa, .int .i64 y.ss, .bool y.sc, .string y.grp, .string y.mem, .int .i64 y.gen, .int .i64 y.off, .int .i64 y.most, .int .i64 y.prod, .int .i64 y.seq, .slice B ps.length b], .agg #[.int .i64 y.id, .int .i64 y.kind, .int .i64 y.label, .string y.pt, .int .i64 y.pp, .string y.tt, .int .i64 y.tp, .string y.sn, .int .i64 y.sp, .int .i64 y.sa, .int .i64 y.ss, .bool y.sc, .string y.grp, .string y.mem, .int .i64 y.gen, .int .i64 y.off, .int .i64 y.most, .int .i64 y.prod, .int .i64 y.seq, .slice C ps.length c]] (by rfl) rfl rfl (by simp only [List.map_toArray, List.map_cons, List.map_nil] <;> rfl) ?_
 refine (hsm.out _ B C b c R.out R2.out).mono ?_
 rintro e V2 ⟨rfl, hb⟩
 have n_G := Aside0.mk (blk_below G.out hb)
 have n_F := Aside0.mk (far_below F.out hb)
 have n_Bg2 := Aside0.mk (blk_below Bg2.out hb)
 have n_Bg4 := Aside0.mk (blk_below Bg4.out hb)
 have n_Bg6 := Aside0.mk (blk_below Bg6.out hb)
 have n_Bg8 := Aside0.mk (blk_below Bg8.out hb)
 clear G F Bg2 Bg4 Bg6 Bg8 hb
 have G := n_G
 have F := n_F
 have Bg2 := n_Bg2
 have Bg4 := n_Bg4
 have Bg6 := n_Bg6
 have Bg8 := n_Bg8
 clear n_G n_F n_Bg2 n_Bg4 n_Bg6 n_Bg8
 refine ⟨_, rfl, hK.out _ _ ⟨Bg2.out, Bg6.out, Bg8.out⟩ (fun _ => ?_)⟩
 clear hK K
 refine norm_ (a' := ?_) ?_ ?_
 rotate_left
 ·simp only [Act.put, List.setIfInBounds_toArray, List.set_cons_zero, List.set_cons_succ]
  rfl
 refine pure_ (i := 10) (N := some 47) (v := ?_) (a' := ?_) #[true, true, true, true, true, true, true, true, true, true, true, false, false] rfl rfl (by kernel_rfl) (fun _ _ _ h => h) (Or.inl ⟨by rfl, ?_⟩) ?_ ?_
 rotate_left
 ·intro w'
  go_simp
  with_reducible rfl
 rotate_left
 ·simp only [Act.put, List.setIfInBounds_toArray, List.set_cons_zero, List.set_cons_succ]
  rfl
 refine one_ (i := 11) (N := none) #[true, true, true, true, true, true, true, true, true, true, true, true, false] rfl rfl (by kernel_rfl) (by simp) (fun K hK => ?_)
 refine skip_ (by rfl) rfl (store_run' (p := 4) (q := .tmp 37) (cells := #[.string rest, .bool (er == 38)]) rfl rfl rfl Bg4.out (by kernel_rfl) rfl (by kernel_rfl)) (hK.out _ _ ⟨(setRow_other _ _ _ _ Dg2g4.out).trans Bg2.out, (setRow_other _ _ _ _ (Ne.symm Dg4g6.out)).trans Bg6.out, (setRow_other _ _ _ _ (Ne.symm Dg4g8.out)).trans Bg8.out⟩ (fun _ => ?_))
 clear hK K
 refine pure_ (i := 12) (N := some 5) (v := ?_) (a' := ?_) #[true, true, true, true, true, true, true, true, true, true, true, true, true] rfl rfl (by kernel_rfl) (fun _ _ _ h => h) (Or.inl ⟨by rfl, ?_⟩) ?_ ?_
 rotate_left
 ·intro w'
  go_simp
  with_reducible rfl
 rotate_left
 ·simp only [Act.put, List.setIfInBounds_toArray, List.set_cons_zero, List.set_cons_succ]
  rfl
 refine done_ (by kernel_rfl) ?_
 go_wp2_with fail
 refine bodyPost_ret (results_ct rfl _ _ g4 28 #[.string rest, .bool (er == 38)] (0, 0) _ rfl (setRow_heap _ g4 _ _ _ _ Bg4.out) Try.underlying28 rfl (by kernel_rfl)) rfl ?_
 exact ⟨by simp <;> rfl, (setRow_other _ _ _ _ Dgg4.out).trans G.out, far_row F.out Gg4.out _⟩
end Go.Proofs.Ytlgihjhlkpmpnaa.Wire
