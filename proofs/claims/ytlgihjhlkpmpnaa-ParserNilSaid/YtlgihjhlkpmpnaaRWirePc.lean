import Derived.Test.YtlgihjhlkpmpnaaRWirePb
import Derived.Test.YtlgihjhlkpmpnaaRWireJ
namespace Go.Proofs.Ytlgihjhlkpmpnaa.Wire
set_option linter.unusedVariables false
set_option linter.unusedSimpArgs false
open Go.RowKit Go.Proofs.YtlgihjhlkpmpnaaW.PrintWords Go.Proofs.YtlgihjhlkpmpnaaW.PrintLast Go.Proofs.YtlgihjhlkpmpnaaW.PrintMore Go.Proofs.Ytlgihjhlkpmpnaa.Hand Go.Proofs.Ytlgihjhlkpmpnaa.PWire Go.Proofs.Ytlgihjhlkpmpnaa.PureNums
def h3 : ByteArray := ⟨#[0, 4, 11]⟩
def h4 : ByteArray := ⟨#[0, 5, 1, 0]⟩
def h7 : ByteArray := ⟨#[0, 4, 11, 0, 5, 1, 0]⟩
theorem dec_h3 : decW h3 = ⟨3, 0, rq0 0 0, []⟩ := by
  unfold decW
  rw [show peekI h3 = 6 from by decide +kernel, if_neg (by omega), if_pos (by decide +kernel)]
theorem dec_h7 : decW h7 = ⟨0, 6, rl, []⟩ := by
  have hp : peekI h7 = 6 := by decide +kernel
  have hs : decSt h7 = ⟨rl, [], (⟨#[]⟩, false)⟩ := by
    unfold decSt
    rw [hp, show bt h7 2 = 11 from by decide +kernel, show be2 h7 3 = 5 from by decide +kernel, show (h7.extract 5 (6 : Int).toNat) = ⟨#[1]⟩ from ba_ext (by decide +kernel)]
    rw [show lets (formF 11) = [76] from rfl]
    simp only [reqL, List.foldl_cons, List.foldl_nil, step76]
    rw [num_one]
    rfl
  unfold decW
  rw [hs, hp]
  rw [if_neg (by omega), if_neg (by simp only [h7]; decide +kernel), if_neg (by omega), if_neg (by simp), if_neg (by rw [ByteArray.toList_eq]; simp), if_pos rl_may]
theorem feed_h3 : feedB ⟨#[]⟩ false h3 = (h3, 0) := by
  have e : (⟨#[]⟩ : ByteArray) ++ h3 = h3 := ba_ext (by decide +kernel)
  show feedR ⟨#[]⟩ h3 = _
  unfold feedR
  rw [if_neg (by decide +kernel), e]
theorem feed_h4 : feedB h3 false h4 = (h7, 0) := by
  have e : h3 ++ h4 = h7 := ba_ext (by decide +kernel)
  show feedR h3 h4 = _
  unfold feedR
  rw [if_neg (by decide +kernel), e]
theorem cut_h3 : cutS h3 = h3 := by
  unfold cutS
  rw [dec_h3]
  exact ba_ext (by decide +kernel)
theorem cut_h7 : cutS h7 = ⟨#[0]⟩ := by
  unfold cutS
  rw [dec_h7]
  exact ba_ext (by decide +kernel)
set_option maxHeartbeats 16000000 in
set_option maxRecDepth 100000 in
theorem half_calls (w : World) : Calls Try.prog 14 #[] w fun e w' => e = .returned (.bool true) ∧ Below w.heap.size w w' := by
  have hund : ∀ b, some undef = some (Value.bool b) → False := fun b h => by simp [undef] at h
  have f1 := Aside0.mk (fun (g : Nat) (W : World) (h : W.heap[g]? = some (prow ⟨#[]⟩ false)) => feed_calls g ⟨#[]⟩ false h3 W h (by decide +kernel) (by decide +kernel))
  rw [feed_h3] at f1
  have f2 := Aside0.mk (fun (g : Nat) (W : World) (h : W.heap[g]? = some (prow h3 false)) => feed_calls g h3 false h4 W h (by decide +kernel) (by decide +kernel))
  rw [feed_h4] at f2
  have n1 := Aside0.mk (fun (g : Nat) (W : World) (h : W.heap[g]? = some (prow h3 false)) => next_calls g h3 false W h (by decide +kernel))
  have n2 := Aside0.mk (fun (g : Nat) (W : World) (h : W.heap[g]? = some (prow h7 false)) => next_calls g h7 false W h (by decide +kernel))
  simp only [show nextD h3 false = ⟨3, 0, rq0 0 0, []⟩ from dec_h3, show nextH h3 false = h3 from cut_h3, show nextB h3 false = false from by show ((decW h3).err == 38) = false; rw [dec_h3]; rfl] at n1
  simp only [show nextD h7 false = ⟨0, 6, rl, []⟩ from dec_h7, show nextH h7 false = ⟨#[0]⟩ from cut_h7, show nextB h7 false = false from by show ((decW h7).err == 38) = false; rw [dec_h7]; rfl] at n2
  have k1 := Aside0.mk (fun (g : Nat) (W : World) (h : W.heap[g]? = some (prow ⟨#[0]⟩ false)) => held_calls g ⟨#[0]⟩ false W h)
  rw [show (((⟨#[0]⟩ : ByteArray).size : Nat) : Int) = 1 from rfl] at k1
  have k2 := Aside0.mk (fun (g : Nat) (W : World) (h : W.heap[g]? = some (prow ⟨#[0]⟩ false)) => broken_calls g ⟨#[0]⟩ false W h)
  have L := Aside0.mk (Below.refl w.heap.size w)
  go_enter Try.func14, Try.ntmps14
  go_wp2_with fail
  refine (new_calls _).mono ?_
  rintro e w1 ⟨g, rfl, hgs, hG, hb⟩
  have GL := Aside0.mk hgs
  have G := Aside0.mk hG
  have n_L := Aside0.mk (below_step L.out hb)
  clear L hb hG hgs
  have L := n_L
  clear n_L
  go_wp2_with fail
  refine (f1.out g _ G.out).mono ?_
  rintro e w2 ⟨rfl, hG, hF⟩
  have n_L := Aside0.mk (below_put L.out GL.out hF L.out.size)
  have n_G := Aside0.mk (hG)
  clear L G hG hF f1
  have L := n_L
  have G := n_G
  clear n_L n_G
  go_wp2_with fail
  refine (n1.out g _ G.out).mono ?_
  rintro e w3 ⟨u, rfl, hR, hG, hF⟩
  obtain ⟨C, c, hu⟩ := Kd.R_slice hR
  subst hu
  have n_L := Aside0.mk (below_put L.out GL.out hF L.out.size)
  have n_G := Aside0.mk (hG)
  clear L G hG hF n1 hR
  have L := n_L
  have G := n_G
  clear n_L n_G
  go_wp2_with (first
    | ((with_reducible refine gate_dst (N := 3) rfl ?_); refine box_event rfl (N := 3) rfl (cs := #[.int .i64 0, .int .i64 0, .int .i64 0, .string ⟨#[]⟩, .int .i64 0, .string ⟨#[]⟩, .int .i64 0, .string ⟨#[]⟩, .int .i64 0, .int .i64 0, .int .i64 0, .bool false, .string ⟨#[]⟩, .string ⟨#[]⟩, .int .i64 0, .int .i64 0, .int .i64 0, .int .i64 0, .int .i64 0, .slice none 0 0]) (t := 45) ?hr ?_; (case hr => first | (go_simp; done) | (go_simp; rfl)); intro g3 hg3 w4 hbx hbl; have G3 := Aside0.mk (show w.heap.size ≤ g3 by rw [hg3]; exact L.out.size); have D3 := Aside0.mk (show g ≠ g3 by rw [hg3]; exact Nat.ne_of_lt (blk_lt G.out)); have n_L := Aside0.mk (below_step L.out hbl); have n_G := Aside0.mk (blk_below G.out hbl); clear L G; have L := n_L; have G := n_G; clear n_L n_G; have V := Aside0.mk hbx; clear hbx hbl hg3)
    | ((with_reducible refine gate_store (t := 45) (p := 3) rfl ?_); refine store_ev rfl rfl rfl (cells := ((rq0 0 0).cs (.slice C 0 c))) rfl rfl V.out (by kernel_rfl) rfl (by kernel_rfl) ?_; intro w5 hbx hgr; have n_L := Aside0.mk (below_put L.out G3.out hgr L.out.size); have n_G := Aside0.mk (grown_at hgr G.out D3.out); clear L G hbx hgr V G3 D3; have L := n_L; have G := n_G; clear n_L n_G))
  refine (f2.out g _ G.out).mono ?_
  rintro e w6 ⟨rfl, hG, hF⟩
  have n_L := Aside0.mk (below_put L.out GL.out hF L.out.size)
  have n_G := Aside0.mk (hG)
  clear L G hG hF f2
  have L := n_L
  have G := n_G
  clear n_L n_G
  go_wp2_with fail
  refine (n2.out g _ G.out).mono ?_
  rintro e w7 ⟨u, rfl, hR, hG, hF⟩
  obtain ⟨D, d, hu⟩ := Kd.R_slice hR
  subst hu
  have n_L := Aside0.mk (below_put L.out GL.out hF L.out.size)
  have n_G := Aside0.mk (hG)
  clear L G hG hF n2 hR
  have L := n_L
  have G := n_G
  clear n_L n_G
  go_wp2_with (first
    | ((with_reducible refine gate_dst (N := 6) rfl ?_); refine box_event rfl (N := 6) rfl (cs := #[.int .i64 0, .int .i64 0, .int .i64 0, .string ⟨#[]⟩, .int .i64 0, .string ⟨#[]⟩, .int .i64 0, .string ⟨#[]⟩, .int .i64 0, .int .i64 0, .int .i64 0, .bool false, .string ⟨#[]⟩, .string ⟨#[]⟩, .int .i64 0, .int .i64 0, .int .i64 0, .int .i64 0, .int .i64 0, .slice none 0 0]) (t := 45) ?hr ?_; (case hr => first | (go_simp; done) | (go_simp; rfl)); intro g6 hg6 w8 hbx hbl; have G6 := Aside0.mk (show w.heap.size ≤ g6 by rw [hg6]; exact L.out.size); have D6 := Aside0.mk (show g ≠ g6 by rw [hg6]; exact Nat.ne_of_lt (blk_lt G.out)); have n_L := Aside0.mk (below_step L.out hbl); have n_G := Aside0.mk (blk_below G.out hbl); clear L G; have L := n_L; have G := n_G; clear n_L n_G; have V := Aside0.mk hbx; clear hbx hbl hg6)
    | ((with_reducible refine gate_store (t := 45) (p := 6) rfl ?_); refine store_ev rfl rfl rfl (cells := (rl.cs (.slice D 0 d))) rfl rfl V.out (by kernel_rfl) rfl (by kernel_rfl) ?_; intro w9 hbx hgr; have n_L := Aside0.mk (below_put L.out G6.out hgr L.out.size); have n_G := Aside0.mk (grown_at hgr G.out D6.out); have n_V := Aside0.mk (hbx); clear L G V hbx hgr G6 D6; have L := n_L; have G := n_G; have V := n_V; clear n_L n_G n_V; have v0 : w9.cell? ⟨g6, 0, none⟩ = some (.int .i64 5) := (blk_cell V.out 0).trans rfl; have v1 : w9.cell? ⟨g6, 1, none⟩ = some (.int .i64 11) := (blk_cell V.out 1).trans rfl; have v2 : w9.cell? ⟨g6, 2, none⟩ = some (.int .i64 1) := (blk_cell V.out 2).trans rfl))
  refine (k1.out g _ G.out).mono ?_
  rintro e w10 ⟨rfl, rfl⟩
  go_wp2_with fail
  refine (k2.out g _ G.out).mono ?_
  rintro e w11 ⟨rfl, rfl⟩
  go_wp2_with fail
  go_ret
  exact ⟨rfl, L.out⟩
set_option maxHeartbeats 16000000 in
set_option maxRecDepth 100000 in
theorem pnil_calls (s : ByteArray) (w : World) : Calls Try.prog 5 #[.string s] w fun e w' => e = .returned (.bool true) ∧ Below w.heap.size w w' := by
  have hund : ∀ b, some undef = some (Value.bool b) → False := fun b h => by simp [undef] at h
  have hnx := Aside0.mk (fun W : World => next_nil W)
  have hfd := Aside0.mk (fun W : World => feed_nil s W)
  have hsm := Aside0.mk (fun W : World => same_calls (rq0 0 0) none none 0 0 [] W (Kd.C_nil _ _) (Kd.C_nil _ _))
  have hhl := Aside0.mk (fun W : World => held_nil W)
  have hbr := Aside0.mk (fun W : World => broken_nil W)
  have hhf := Aside0.mk (fun W : World => half_calls W)
  have L := Aside0.mk (Below.refl w.heap.size w)
  go_enter Try.func5, Try.ntmps5
  go_wp2_with fail
  refine (hnx.out _).mono ?_
  rintro e w1 ⟨rfl, hb⟩
  have n_L := Aside0.mk (below_step L.out hb)
  clear L hb
  have L := n_L
  clear n_L
  go_wp2_with (first
    | ((with_reducible refine gate_dst (N := 4) rfl ?_); refine box_event rfl (N := 4) rfl (cs := #[.int .i64 0, .int .i64 0, .int .i64 0, .string ⟨#[]⟩, .int .i64 0, .string ⟨#[]⟩, .int .i64 0, .string ⟨#[]⟩, .int .i64 0, .int .i64 0, .int .i64 0, .bool false, .string ⟨#[]⟩, .string ⟨#[]⟩, .int .i64 0, .int .i64 0, .int .i64 0, .int .i64 0, .int .i64 0, .slice none 0 0]) (t := 45) ?hr ?_; (case hr => first | (go_simp; done) | (go_simp; rfl)); intro g4 hg4 w2 hbx hbl; have G4 := Aside0.mk (show w.heap.size ≤ g4 by rw [hg4]; exact L.out.size); have n_L := Aside0.mk (below_step L.out hbl); clear L; have L := n_L; clear n_L; have V := Aside0.mk hbx; clear hbx hbl hg4)
    | ((with_reducible refine gate_store (t := 45) (p := 4) rfl ?_); refine store_ev rfl rfl rfl (cells := #[.int .i64 0, .int .i64 0, .int .i64 0, .string ⟨#[]⟩, .int .i64 0, .string ⟨#[]⟩, .int .i64 0, .string ⟨#[]⟩, .int .i64 0, .int .i64 0, .int .i64 0, .bool false, .string ⟨#[]⟩, .string ⟨#[]⟩, .int .i64 0, .int .i64 0, .int .i64 0, .int .i64 0, .int .i64 0, .slice none 0 0]) rfl rfl V.out (by kernel_rfl) rfl (by kernel_rfl) ?_; intro w3 hbx hgr; have n_L := Aside0.mk (below_put L.out G4.out hgr L.out.size); have n_V := Aside0.mk (hbx); clear L V hbx hgr; have L := n_L; have V := n_V; clear n_L n_V)
    | ((with_reducible refine gate_dst (N := 11) rfl ?_); refine load_ev (N := 11) rfl rfl rfl (cs := #[.int .i64 0, .int .i64 0, .int .i64 0, .string ⟨#[]⟩, .int .i64 0, .string ⟨#[]⟩, .int .i64 0, .string ⟨#[]⟩, .int .i64 0, .int .i64 0, .int .i64 0, .bool false, .string ⟨#[]⟩, .string ⟨#[]⟩, .int .i64 0, .int .i64 0, .int .i64 0, .int .i64 0, .int .i64 0, .slice none 0 0]) rfl V.out Try.underlying45 rfl (by kernel_rfl) ?_))
  refine (hsm.out _).mono ?_
  rintro e w4 ⟨rfl, hb⟩
  have n_L := Aside0.mk (below_step L.out hb)
  clear L hb
  have L := n_L
  clear n_L
  go_wp2_with fail
  refine (hfd.out _).mono ?_
  rintro e w5 ⟨rfl, hb⟩
  have n_L := Aside0.mk (below_step L.out hb)
  clear L hb
  have L := n_L
  clear n_L
  go_wp2_with fail
  refine (hhl.out _).mono ?_
  rintro e w6 ⟨rfl, rfl⟩
  go_wp2_with fail
  refine (hbr.out _).mono ?_
  rintro e w7 ⟨rfl, rfl⟩
  go_wp2_with fail
  refine (hhf.out _).mono ?_
  rintro e w8 ⟨rfl, hb⟩
  have L2 := Aside0.mk (below_step L.out hb)
  clear hb
  go_wp2_with fail
  go_ret
  exact ⟨rfl, L2.out⟩
end Go.Proofs.Ytlgihjhlkpmpnaa.Wire
