import Derived.Test.YtgojaomldkgojaaDd9
namespace Go.Proofs.Ytgojaomldkgojaa.Dd
set_option linter.unusedVariables false
set_option linter.unusedSimpArgs false
open Go.RowKit Go.Maps Go.Proofs.YtgojaomldkgojaaW.PrintWords Go.Proofs.YtgojaomldkgojaaW.PrintLast Go.Proofs.YtgojaomldkgojaaW.PrintMore Go.Proofs.Ytgojaomldkgojaa.PDd Go.Proofs.Ytgojaomldkgojaa.Wire Go.Proofs.Ytgojaomldkgojaa.Hand
theorem la_new {W W0 W' : World} {base b : Nat} {v : Value} {xs : List La} (h : Kd.R k43 43 W base (fun _ => True) v xs) (hb : Below W.heap.size W W0) (hg : W0.grownBy W' (some b)) (hB : W.heap.size ≤ b) : Kd.R k43 43 W' base (fun _ => True) v xs :=
  Kd.R_mono (Kd.R_step (Kd.R_bound h) (fun k hk hlt => (hg.block k (Nat.lt_of_lt_of_le hlt hb.size) (fun e => by have := Option.some.inj e; omega)).trans (hb.block k hlt))) (fun _ _ => trivial)
theorem la_ne {W : World} {v : Value} {xs : List La} {base g : Nat} (h : Kd.R k43 43 W base (fun _ => True) v xs) (hg : W.heap.size ≤ g) : v.ownBlock ≠ some g :=
  fun e => by have := ((Kd.R_bound h).1 g e).2.2.1; omega
/-- what of the list is still to come, when x is put already, or not -/
def restD (pt : Bool) (l : List La) (x : La) : List La := if pt = true then l else noteL l x
set_option maxHeartbeats 16000000 in
set_option maxRecDepth 100000 in
theorem noted_calls (A : Option Addr) (c : Nat) (l : List La) (x0 x1 x2 x3 : Int) (w : World) (hA : Kd.C k43 w A l.length l) (hc : l.length ≤ c) (hris : Ris l) (hl : l.length ≤ 1000) :
    Calls Try.prog 22 #[.slice A l.length c, .agg #[.int .i64 x0, .int .i64 x1, .int .i64 x2, .int .i64 x3]] w fun e w' => ∃ (A' : Option Addr) (n' c' : Nat), e = .returned (.agg #[.slice A' n' c', .int .i64 (noteE l ⟨x0, x1, x2, x3⟩)]) ∧ (noteE l ⟨x0, x1, x2, x3⟩ = 0 → Kd.R k43 43 w' w.heap.size (fun _ => True) (.slice A' n' c') (noteL l ⟨x0, x1, x2, x3⟩)) ∧ Below w.heap.size w w' := by
  have hund : ∀ b, some undef = some (Value.bool b) → False := fun b h => by simp [undef] at h
  have HA := Aside0.mk hA
  have HS := Aside0.mk hris
  clear hA hris
  have hmay := fun (W : World) => weighlockref18_May.calls x0 x1 x2 (mayB x0 x1 x2) W (rmay_spec x0 x1 x2)
  have HE : Aside0 (noteE l ⟨x0, x1, x2, x3⟩ = if mayB x0 x1 x2 = true ∧ 0 ≤ x3 ∧ x3 ≤ 1048576 then (if findL l x0 = none ∧ l.length = 16 then 5 else 0) else 1) := ⟨rfl⟩
  generalize noteE l ⟨x0, x1, x2, x3⟩ = E at *
  go_enter Try.func22, Try.ntmps22
  go_wp2_with (first
    | ((with_reducible refine gate_dst (N := 3) rfl ?_); refine box_event rfl (N := 3) rfl (cs := #[.int .i64 x0, .int .i64 x1, .int .i64 x2, .int .i64 x3]) (t := 43) ?hr ?_; (case hr => first | (go_simp; done) | (go_simp; rfl)); intro g3 hg3 w1 hbx hbl; have HB := Aside0.mk hbl; have G3 := Aside0.mk (show w.heap.size ≤ g3 by rw [hg3]; exact Nat.le_refl _); have X := Aside0.mk hbx; clear hbl hbx hg3)
    | ((with_reducible refine gate_dst (N := 4) rfl ?_); refine box_event rfl (N := 4) rfl (cs := #[.slice none 0 0, .int .i64 0]) (t := 40) ?hr ?_; (case hr => first | (go_simp; done) | (go_simp; rfl)); intro g4 hg4 w2 hbx hbl; have D34 := Aside0.mk (show g3 ≠ g4 by rw [hg4]; exact Nat.ne_of_lt (Array.getElem?_eq_some_iff.1 X.out).1); have G4 := Aside0.mk (show w.heap.size ≤ g4 by rw [hg4]; exact HB.out.size); have n_X := Aside0.mk ((hbl.block g3 (Array.getElem?_eq_some_iff.1 X.out).1).trans X.out); have n_B := Aside0.mk (below_step HB.out hbl); have Y := Aside0.mk hbx; clear HB X hbl hbx hg4; have HB := n_B; have X := n_X; clear n_B n_X; have k0 : w2.cell? ⟨g3, 0, none⟩ = some (.int .i64 x0) := (blk_cell X.out 0).trans rfl; have k1 : w2.cell? ⟨g3, 1, none⟩ = some (.int .i64 x1) := (blk_cell X.out 1).trans rfl; have k2 : w2.cell? ⟨g3, 2, none⟩ = some (.int .i64 x2) := (blk_cell X.out 2).trans rfl; have k3 : w2.cell? ⟨g3, 3, none⟩ = some (.int .i64 x3) := (blk_cell X.out 3).trans rfl))
  have HM := Aside0.mk (hmay w2)
  clear hmay
  cases hm : mayB x0 x1 x2 with
  | false =>
    rw [hm] at HM HE
    have E1 := Aside0.mk (HE.out.trans (if_neg (fun h => by simp at h)))
    clear HE
    refine HM.out.mono ?_
    rintro e w3 ⟨rfl, hd⟩
    have hb := hd.below
    clear hd HM k0 k1 k2 k3
    have n_X := Aside0.mk ((hb.block g3 (Array.getElem?_eq_some_iff.1 X.out).1).trans X.out)
    have n_Y := Aside0.mk ((hb.block g4 (Array.getElem?_eq_some_iff.1 Y.out).1).trans Y.out)
    have n_HB := Aside0.mk (below_step HB.out hb)
    clear X Y HB hb
    have X := n_X
    have Y := n_Y
    have HB := n_HB
    clear n_X n_Y n_HB
    have k0 : w3.cell? ⟨g3, 0, none⟩ = some (.int .i64 x0) := (blk_cell X.out 0).trans rfl
    have k1 : w3.cell? ⟨g3, 1, none⟩ = some (.int .i64 x1) := (blk_cell X.out 1).trans rfl
    have k2 : w3.cell? ⟨g3, 2, none⟩ = some (.int .i64 x2) := (blk_cell X.out 2).trans rfl
    have k3 : w3.cell? ⟨g3, 3, none⟩ = some (.int .i64 x3) := (blk_cell X.out 3).trans rfl
    go_wp2_with (first
      | ((with_reducible refine gate_store (t := 40) (p := 4) rfl ?_); refine store_ev rfl rfl rfl (cells := #[.slice A l.length c, .int .i64 1]) rfl rfl Y.out (by kernel_rfl) rfl (by kernel_rfl) ?_; intro wf hbx hgr; have n_B := Aside0.mk (below_put HB.out G4.out hgr HB.out.size); have n_Y := Aside0.mk hbx; clear HB Y hbx hgr; have HB := n_B; have Y := n_Y; clear n_B n_Y))
    refine bodyPost_ret (results_cell_row rfl _ _ g4 40 #[.slice A l.length c, .int .i64 1] (0, 0) _ rfl Y.out Try.underlying40 rfl (by kernel_rfl)) rfl ?_
    exact ⟨_, _, _, by rw [E1.out], (fun h => by rw [E1.out] at h; cases h), HB.out⟩
  | true =>
    rw [hm] at HM HE
    have hmb := of_decide_eq_true hm
    refine HM.out.mono ?_
    rintro e w3 ⟨rfl, hd⟩
    have hb := hd.below
    clear hd HM k0 k1 k2 k3 hm
    have n_X := Aside0.mk ((hb.block g3 (Array.getElem?_eq_some_iff.1 X.out).1).trans X.out)
    have n_Y := Aside0.mk ((hb.block g4 (Array.getElem?_eq_some_iff.1 Y.out).1).trans Y.out)
    have n_HB := Aside0.mk (below_step HB.out hb)
    clear X Y HB hb
    have X := n_X
    have Y := n_Y
    have HB := n_HB
    clear n_X n_Y n_HB
    have k0 : w3.cell? ⟨g3, 0, none⟩ = some (.int .i64 x0) := (blk_cell X.out 0).trans rfl
    have k1 : w3.cell? ⟨g3, 1, none⟩ = some (.int .i64 x1) := (blk_cell X.out 1).trans rfl
    have k2 : w3.cell? ⟨g3, 2, none⟩ = some (.int .i64 x2) := (blk_cell X.out 2).trans rfl
    have k3 : w3.cell? ⟨g3, 3, none⟩ = some (.int .i64 x3) := (blk_cell X.out 3).trans rfl
    by_cases ho : x3 < 0
    · have E1 := Aside0.mk (HE.out.trans (if_neg (fun h => by omega)))
      have hd1 : decide (x3 < 0) = true := decide_eq_true ho
      clear HE ho
      go_wp2_with (first
        | ((with_reducible refine gate_store (t := 40) (p := 4) rfl ?_); refine store_ev rfl rfl rfl (cells := #[.slice A l.length c, .int .i64 1]) rfl rfl Y.out (by kernel_rfl) rfl (by kernel_rfl) ?_; intro wf hbx hgr; have n_B := Aside0.mk (below_put HB.out G4.out hgr HB.out.size); have n_Y := Aside0.mk hbx; clear HB Y hbx hgr; have HB := n_B; have Y := n_Y; clear n_B n_Y))
      refine bodyPost_ret (results_cell_row rfl _ _ g4 40 #[.slice A l.length c, .int .i64 1] (0, 0) _ rfl Y.out Try.underlying40 rfl (by kernel_rfl)) rfl ?_
      exact ⟨_, _, _, by rw [E1.out], (fun h => by rw [E1.out] at h; cases h), HB.out⟩
    have hd1 : decide (x3 < 0) = false := decide_eq_false ho
    have ho1 := Aside0.mk ho
    clear ho
    by_cases ho : 1048576 < x3
    · have E1 := Aside0.mk (HE.out.trans (if_neg (fun h => by omega)))
      have hd2 : decide (1048576 < x3) = true := decide_eq_true ho
      clear HE ho
      go_wp2_with (first
        | ((with_reducible refine gate_store (t := 40) (p := 4) rfl ?_); refine store_ev rfl rfl rfl (cells := #[.slice A l.length c, .int .i64 1]) rfl rfl Y.out (by kernel_rfl) rfl (by kernel_rfl) ?_; intro wf hbx hgr; have n_B := Aside0.mk (below_put HB.out G4.out hgr HB.out.size); have n_Y := Aside0.mk hbx; clear HB Y hbx hgr; have HB := n_B; have Y := n_Y; clear n_B n_Y))
      refine bodyPost_ret (results_cell_row rfl _ _ g4 40 #[.slice A l.length c, .int .i64 1] (0, 0) _ rfl Y.out Try.underlying40 rfl (by kernel_rfl)) rfl ?_
      exact ⟨_, _, _, by rw [E1.out], (fun h => by rw [E1.out] at h; cases h), HB.out⟩
    have hd2 : decide (1048576 < x3) = false := decide_eq_false ho
    have HE2 := Aside0.mk (HE.out.trans (if_pos ⟨rfl, by have := ho1.out; omega, by omega⟩))
    clear HE ho ho1
    go_wp2_with fail
    obtain ⟨r, hfr, hr⟩ := find_spec l x0 HS.out hl 3000 (by omega)
    refine (weighlockref18_Find.calls 3000 A c l x0 r w3 (Kd.C_below HA.out HB.out) hc hfr).mono ?_
    rintro e w4 ⟨rfl, hb⟩
    clear k0 k1 k2 k3 hd1 hd2 hfr
    have n_X := Aside0.mk ((hb.block g3 (Array.getElem?_eq_some_iff.1 X.out).1).trans X.out)
    have n_Y := Aside0.mk ((hb.block g4 (Array.getElem?_eq_some_iff.1 Y.out).1).trans Y.out)
    have n_HB := Aside0.mk (below_step HB.out hb)
    clear X Y HB hb
    have X := n_X
    have Y := n_Y
    have HB := n_HB
    clear n_X n_Y n_HB
    have k0 : w4.cell? ⟨g3, 0, none⟩ = some (.int .i64 x0) := (blk_cell X.out 0).trans rfl
    have k1 : w4.cell? ⟨g3, 1, none⟩ = some (.int .i64 x1) := (blk_cell X.out 1).trans rfl
    have k2 : w4.cell? ⟨g3, 2, none⟩ = some (.int .i64 x2) := (blk_cell X.out 2).trans rfl
    have k3 : w4.cell? ⟨g3, 3, none⟩ = some (.int .i64 x3) := (blk_cell X.out 3).trans rfl
    have hcase : (r < 0 ∧ l.length = 16 ∧ E = 5) ∨ (((r < 0 ∧ l.length ≠ 16) ∨ 0 ≤ r) ∧ E = 0) := by
      rcases hr with ⟨rfl, hf⟩ | ⟨j, hj, rfl, hf⟩
      · by_cases h16 : l.length = 16
        · exact .inl ⟨by omega, h16, HE2.out.trans (if_pos ⟨hf, h16⟩)⟩
        · exact .inr ⟨.inl ⟨by omega, h16⟩, HE2.out.trans (if_neg (fun h => h16 h.2))⟩
      · exact .inr ⟨.inr (by omega), HE2.out.trans (if_neg (fun h => by rw [hf] at h; simp at h))⟩
    clear HE2 hr
    rcases hcase with ⟨hr0, h16, hE⟩ | ⟨hrr, hE⟩
    · have E1 := Aside0.mk hE
      have hd1 : decide (r < 0) = true := decide_eq_true hr0
      have hq : ((l.length : Int) == 16) = true := by rw [h16]; rfl
      clear hE h16 hr0
      go_wp2_with (first
        | ((with_reducible refine gate_store (t := 40) (p := 4) rfl ?_); refine store_ev rfl rfl rfl (cells := #[.slice A l.length c, .int .i64 5]) rfl rfl Y.out (by kernel_rfl) rfl (by kernel_rfl) ?_; intro wf hbx hgr; have n_B := Aside0.mk (below_put HB.out G4.out hgr HB.out.size); have n_Y := Aside0.mk hbx; clear HB Y hbx hgr; have HB := n_B; have Y := n_Y; clear n_B n_Y))
      refine bodyPost_ret (results_cell_row rfl _ _ g4 40 #[.slice A l.length c, .int .i64 5] (0, 0) _ rfl Y.out Try.underlying40 rfl (by kernel_rfl)) rfl ?_
      exact ⟨_, _, _, by rw [E1.out], (fun h => by rw [E1.out] at h; cases h), HB.out⟩
    subst hE
    have hskip : Aside0 (decide (r < 0) = false ∨ (decide (r < 0) = true ∧ ((l.length : Int) == 16) = false)) := ⟨by
      rcases hrr with ⟨h1, h2⟩ | h1
      · exact .inr ⟨decide_eq_true h1, beq_eq_false_iff_ne.2 (by omega)⟩
      · exact .inl (decide_eq_false (by omega))⟩
    clear hrr
    have HAw := Aside0.mk (Kd.C_below HA.out HB.out)
    have K0 := Aside0.mk k0
    have g34 := Aside0.mk (Array.getElem?_eq_some_iff.1 X.out).1
    rcases hskip.out with hd1 | ⟨hd1, hd2⟩
    all_goals clear hskip
    all_goals (go_wp2_with fail)
    all_goals
      clear k0 k1 k2 k3
      go_loopw [5, 6, 43] (fun ov pv iv wr => ∃ (i : Nat) (pt : Bool) (acc : List La), iv = .int .i64 i ∧ pv = .bool pt ∧ i ≤ l.length ∧ Aside0 (acc.length ≤ 2 * i) ∧ Aside0 (pt = true → ∀ y ∈ l.drop i, y.f0 ≠ x0) ∧ Aside0 (acc ++ restD pt (l.drop i) ⟨x0, x1, x2, x3⟩ = noteL l ⟨x0, x1, x2, x3⟩) ∧ Aside0 (Kd.R k43 43 wr w4.heap.size (fun _ => True) ov acc) ∧ Aside0 (Below w4.heap.size w4 wr)) (fun _ _ iv _ => l.length - (intOf iv).toNat)
      case atStart => exact ⟨0, false, [], rfl, rfl, Nat.zero_le _, ⟨Nat.zero_le _⟩, ⟨fun h => by cases h⟩, ⟨rfl⟩, ⟨Kd.R_nil _ _ _ _ _⟩, ⟨Below.refl _ _⟩⟩
      case round =>
        obtain ⟨i, pt, acc, rfl, rfl, hil, HN, HP, HL, R, H4⟩ := hrel
        by_cases hlt : i < l.length
        · obtain ⟨ad, hAd, hcs⟩ := at_la (Kd.C_below HAw.out H4.out) i hlt hlt
          have hcs' := Aside0.mk hcs
          have hdr : l.drop i = l[i] :: l.drop (i + 1) := List.drop_eq_getElem_cons hlt
          have hrs : ∀ y ∈ l.drop (i + 1), l[i].f0 < y.f0 := by
            have h9 : Ris (l.drop i) := List.Pairwise.sublist (List.drop_sublist i l) HS.out
            rw [hdr] at h9
            exact (List.pairwise_cons.1 h9).1
          have HP1 : Aside0 (pt = true → l[i].f0 ≠ x0 ∧ ∀ y ∈ l.drop (i + 1), y.f0 ≠ x0) := ⟨fun h => ⟨HP.out h _ (by rw [hdr]; exact List.mem_cons_self), fun y hy => HP.out h y (by rw [hdr]; exact List.mem_cons_of_mem _ hy)⟩⟩
          have HP2 : Aside0 (x0 ≤ l[i].f0 → ∀ y ∈ l.drop (i + 1), y.f0 ≠ x0) := ⟨fun h y hy => by have := hrs y hy; omega⟩
          have HD1 : Aside0 (pt = true → restD pt (l.drop i) ⟨x0, x1, x2, x3⟩ = l[i] :: restD true (l.drop (i + 1)) ⟨x0, x1, x2, x3⟩) := ⟨fun h => by rw [hdr, h]; rfl⟩
          have HD2 : Aside0 (pt = false → x0 < l[i].f0 → restD pt (l.drop i) ⟨x0, x1, x2, x3⟩ = ⟨x0, x1, x2, x3⟩ :: l[i] :: restD true (l.drop (i + 1)) ⟨x0, x1, x2, x3⟩) := ⟨fun h h2 => by rw [hdr, h]; show noteL _ _ = _; rw [noteL, if_pos h2]; rfl⟩
          have HD3 : Aside0 (pt = false → l[i].f0 = x0 → restD pt (l.drop i) ⟨x0, x1, x2, x3⟩ = ⟨x0, x1, x2, x3⟩ :: restD true (l.drop (i + 1)) ⟨x0, x1, x2, x3⟩) := ⟨fun h h2 => by rw [hdr, h]; show noteL _ _ = _; rw [noteL, if_neg (show ¬ x0 < l[i].f0 by omega), if_pos h2]; rfl⟩
          have HD4 : Aside0 (pt = false → l[i].f0 < x0 → restD pt (l.drop i) ⟨x0, x1, x2, x3⟩ = l[i] :: restD false (l.drop (i + 1)) ⟨x0, x1, x2, x3⟩) := ⟨fun h h2 => by rw [hdr, h]; show noteL _ _ = _; rw [noteL, if_neg (show ¬ x0 < l[i].f0 by omega), if_neg (show ¬ l[i].f0 = x0 by omega)]; rfl⟩
          subst hAd
          clear hcs hdr hrs HP
          obtain ⟨pr, hpr⟩ : ∃ pr, l[i] = pr := ⟨_, rfl⟩
          simp only [hpr] at hcs' HP1 HP2 HD1 HD2 HD3 HD4
          clear hpr
          obtain ⟨y0, y1, y2, y3⟩ := pr
          simp only [La.cs] at hcs' HP1 HP2 HD1 HD2 HD3 HD4
          have H4z := Aside0.mk H4.out.size
          by_cases hpt : pt = true
          · subst hpt
            have E1 := Aside0.mk (HD1.out rfl)
            have hp := HP1.out rfl
            have HPn := Aside0.mk hp.2
            have hq1 : (y0 == x0) = false := beq_eq_false_iff_ne.2 hp.1
            clear hp
            go_wp2_with (first
              | ((with_reducible refine gate_dst (N := 46) rfl ?_); refine load_evm' (N := 46) rfl rfl rfl (cs := #[.int .i64 y0, .int .i64 y1, .int .i64 y2, .int .i64 y3]) rfl hcs'.out Try.underlying43 rfl (by kernel_rfl) ?_)
              | ((with_reducible refine gate_dst (N := 8) rfl ?_); refine box_event rfl (N := 8) rfl (cs := #[.int .i64 0, .int .i64 0, .int .i64 0, .int .i64 0]) (t := 43) ?hr ?_; (case hr => first | (go_simp; done) | (go_simp; rfl)); intro g8 hg8 w5 hbx hbl; have n_H := Aside0.mk (below_step H4.out hbl); have HX := Aside0.mk hbl; have NE := Aside0.mk (la_ne R.out (show wr.heap.size ≤ g8 by rw [hg8]; exact Nat.le_refl _)); have G8 := Aside0.mk (show wr.heap.size ≤ g8 by rw [hg8]; exact Nat.le_refl _); have Q := Aside0.mk hbx; clear H4 hbx hbl hg8; have H4 := n_H; clear n_H)
              | ((with_reducible refine gate_store (t := 43) (p := 8) rfl ?_); refine store_ev rfl rfl rfl (cells := #[.int .i64 y0, .int .i64 y1, .int .i64 y2, .int .i64 y3]) rfl rfl Q.out (by kernel_rfl) rfl (by kernel_rfl) ?_; intro w6 hbx hgr; have n_R := Aside0.mk (la_new R.out HX.out hgr G8.out); have n_H := Aside0.mk (below_put H4.out (Nat.le_trans H4z.out G8.out) hgr H4.out.size); have n_Q := Aside0.mk hbx; clear H4 Q hbx hgr R HX; have H4 := n_H; have Q := n_Q; have R := n_R; clear n_H n_Q n_R; have c0 : w6.cell? ⟨g8, 0, none⟩ = some (.int .i64 y0) := (blk_cell Q.out 0).trans rfl; have z0 : w6.cell? ⟨g3, 0, none⟩ = some (.int .i64 x0) := (H4.out.cell g34.out).trans K0.out)
              | ((with_reducible refine gate_dst (N := 66) rfl ?_); refine load_ev (N := 66) rfl rfl rfl (cs := #[.int .i64 y0, .int .i64 y1, .int .i64 y2, .int .i64 y3]) rfl Q.out Try.underlying43 rfl (by kernel_rfl) ?_)
              | ((with_reducible refine gate_builtin (b := .append) (xs := #[.tmp 65, .tmp 67]) rfl ?_); at_builtin; refine Kd.R_append k43 (w0 := w4) w4.heap.size rfl (.tmp 65) (.tmp 67) 36 43 (.agg #[.int .i64 0, .int .i64 0, .int .i64 0, .int .i64 0]) 32 rfl Try.underlying36 info43 rfl (by decide) (by decide) _ acc (⟨y0, y1, y2, y3⟩ : La) [.int .i64 y0, .int .i64 y1, .int .i64 y2, .int .i64 y3] (fun _ => True) (fun _ => False) rfl ?aX (k43_mkM _ _ _ ⟨y0, y1, y2, y3⟩) (fun _ hk => hk.elim) (fun _ _ => trivial) R.out H4.out H4.out.size ?aL ?_; (case aX => first | rfl | (go_simp; done) | (go_simp; rfl)); (case aL => (try simp only [List.length_append, List.length_cons, List.length_nil]); have := HN.out; omega); intro uw7 w7 ho hb hgr hat; clear R H4 hgr hat; have R := Aside0.mk ho; have H4 := Aside0.mk hb; clear ho hb))
            try clear hq1
            try clear hq2
            try clear hb1
            try clear c0
            try clear z0
            try clear n_c
            try clear n_z
            go_roundw
            case rel => exact ⟨i + 1, true, acc ++ [⟨y0, y1, y2, y3⟩], by go_num, rfl, by omega, ⟨by simp only [List.length_append]; have := HN.out; simp; omega⟩, ⟨fun _ => HPn.out⟩, ⟨by rw [← HL.out, E1.out]; simp⟩, R, H4⟩
            case measure => simp [intOf]; omega
          have hpf : pt = false := by simpa using hpt
          clear hpt
          subst hpf
          by_cases h1 : x0 < y0
          · have E1 := Aside0.mk (HD2.out rfl h1)
            have HPn := Aside0.mk (HP2.out (by omega))
            have hq1 : (y0 == x0) = false := beq_eq_false_iff_ne.2 (by omega)
            have hq2 : decide (x0 ≤ y0) = true := decide_eq_true (by omega)
            go_wp2_with (first
              | ((with_reducible refine gate_dst (N := 46) rfl ?_); refine load_evm' (N := 46) rfl rfl rfl (cs := #[.int .i64 y0, .int .i64 y1, .int .i64 y2, .int .i64 y3]) rfl hcs'.out Try.underlying43 rfl (by kernel_rfl) ?_)
              | ((with_reducible refine gate_dst (N := 8) rfl ?_); refine box_event rfl (N := 8) rfl (cs := #[.int .i64 0, .int .i64 0, .int .i64 0, .int .i64 0]) (t := 43) ?hr ?_; (case hr => first | (go_simp; done) | (go_simp; rfl)); intro g8 hg8 w5 hbx hbl; have n_H := Aside0.mk (below_step H4.out hbl); have HX := Aside0.mk hbl; have NE := Aside0.mk (la_ne R.out (show wr.heap.size ≤ g8 by rw [hg8]; exact Nat.le_refl _)); have G8 := Aside0.mk (show wr.heap.size ≤ g8 by rw [hg8]; exact Nat.le_refl _); have Q := Aside0.mk hbx; clear H4 hbx hbl hg8; have H4 := n_H; clear n_H)
              | ((with_reducible refine gate_store (t := 43) (p := 8) rfl ?_); refine store_ev rfl rfl rfl (cells := #[.int .i64 y0, .int .i64 y1, .int .i64 y2, .int .i64 y3]) rfl rfl Q.out (by kernel_rfl) rfl (by kernel_rfl) ?_; intro w6 hbx hgr; have n_R := Aside0.mk (la_new R.out HX.out hgr G8.out); have n_H := Aside0.mk (below_put H4.out (Nat.le_trans H4z.out G8.out) hgr H4.out.size); have n_Q := Aside0.mk hbx; clear H4 Q hbx hgr R HX; have H4 := n_H; have Q := n_Q; have R := n_R; clear n_H n_Q n_R; have c0 : w6.cell? ⟨g8, 0, none⟩ = some (.int .i64 y0) := (blk_cell Q.out 0).trans rfl; have z0 : w6.cell? ⟨g3, 0, none⟩ = some (.int .i64 x0) := (H4.out.cell g34.out).trans K0.out)
              | ((with_reducible refine gate_dst (N := 57) rfl ?_); refine load_ev (N := 57) rfl rfl rfl (cs := #[.int .i64 x0, .int .i64 x1, .int .i64 x2, .int .i64 x3]) rfl ((H4.out.block g3 g34.out).trans X.out) Try.underlying43 rfl (by kernel_rfl) ?_)
              | ((with_reducible refine gate_builtin (b := .append) (xs := #[.tmp 56, .tmp 58]) rfl ?_); at_builtin; refine Kd.R_append k43 (w0 := w4) w4.heap.size rfl (.tmp 56) (.tmp 58) 36 43 (.agg #[.int .i64 0, .int .i64 0, .int .i64 0, .int .i64 0]) 32 rfl Try.underlying36 info43 rfl (by decide) (by decide) _ acc (⟨x0, x1, x2, x3⟩ : La) [.int .i64 x0, .int .i64 x1, .int .i64 x2, .int .i64 x3] (fun _ => True) (fun _ => False) rfl ?aX (k43_mkM _ _ _ ⟨x0, x1, x2, x3⟩) (fun _ hk => hk.elim) (fun _ _ => trivial) R.out H4.out H4.out.size ?aL ?_; (case aX => first | rfl | (go_simp; done) | (go_simp; rfl)); (case aL => (try simp only [List.length_append, List.length_cons, List.length_nil]); have := HN.out; omega); intro uw7 w7 ho hb hgr hat; have n_Q := Aside0.mk (blk_grown2 Q.out hgr NE.out); clear Q; have Q := n_Q; clear n_Q; have n_c := (blk_cell Q.out 0).trans (show _ = some (.int .i64 y0) from rfl); have n_z : w7.cell? ⟨g3, 0, none⟩ = some (.int .i64 x0) := (hb.cell g34.out).trans K0.out; clear R H4 hgr hat; have R := Aside0.mk ho; have H4 := Aside0.mk hb; clear ho hb)
              | ((with_reducible refine gate_dst (N := 66) rfl ?_); refine load_ev (N := 66) rfl rfl rfl (cs := #[.int .i64 y0, .int .i64 y1, .int .i64 y2, .int .i64 y3]) rfl Q.out Try.underlying43 rfl (by kernel_rfl) ?_)
              | ((with_reducible refine gate_builtin (b := .append) (xs := #[.tmp 65, .tmp 67]) rfl ?_); at_builtin; refine Kd.R_append k43 (w0 := w4) w4.heap.size rfl (.tmp 65) (.tmp 67) 36 43 (.agg #[.int .i64 0, .int .i64 0, .int .i64 0, .int .i64 0]) 32 rfl Try.underlying36 info43 rfl (by decide) (by decide) _ (acc ++ [(⟨x0, x1, x2, x3⟩ : La)]) (⟨y0, y1, y2, y3⟩ : La) [.int .i64 y0, .int .i64 y1, .int .i64 y2, .int .i64 y3] (fun _ => True) (fun _ => False) rfl ?aX (k43_mkM _ _ _ ⟨y0, y1, y2, y3⟩) (fun _ hk => hk.elim) (fun _ _ => trivial) R.out H4.out H4.out.size ?aL ?_; (case aX => first | rfl | (go_simp; done) | (go_simp; rfl)); (case aL => (try simp only [List.length_append, List.length_cons, List.length_nil]); have := HN.out; omega); intro uw8 w8 ho hb hgr hat; clear R H4 hgr hat; have R := Aside0.mk ho; have H4 := Aside0.mk hb; clear ho hb))
            try clear hq1
            try clear hq2
            try clear hb1
            try clear c0
            try clear z0
            try clear n_c
            try clear n_z
            go_roundw
            case rel => exact ⟨i + 1, true, acc ++ [⟨x0, x1, x2, x3⟩] ++ [⟨y0, y1, y2, y3⟩], by go_num, rfl, by omega, ⟨by simp only [List.length_append]; have := HN.out; simp; omega⟩, ⟨fun _ => HPn.out⟩, ⟨by rw [← HL.out, E1.out]; simp⟩, R, H4⟩
            case measure => simp [intOf]; omega
          by_cases h2 : y0 = x0
          · have E1 := Aside0.mk (HD3.out rfl h2)
            have HPn := Aside0.mk (HP2.out (by omega))
            have hq1 : (y0 == x0) = true := beq_iff_eq.2 h2
            have hq2 : decide (x0 ≤ y0) = true := decide_eq_true (by omega)
            clear h1 h2
            go_wp2_with (first
              | ((with_reducible refine gate_dst (N := 46) rfl ?_); refine load_evm' (N := 46) rfl rfl rfl (cs := #[.int .i64 y0, .int .i64 y1, .int .i64 y2, .int .i64 y3]) rfl hcs'.out Try.underlying43 rfl (by kernel_rfl) ?_)
              | ((with_reducible refine gate_dst (N := 8) rfl ?_); refine box_event rfl (N := 8) rfl (cs := #[.int .i64 0, .int .i64 0, .int .i64 0, .int .i64 0]) (t := 43) ?hr ?_; (case hr => first | (go_simp; done) | (go_simp; rfl)); intro g8 hg8 w5 hbx hbl; have n_H := Aside0.mk (below_step H4.out hbl); have HX := Aside0.mk hbl; have NE := Aside0.mk (la_ne R.out (show wr.heap.size ≤ g8 by rw [hg8]; exact Nat.le_refl _)); have G8 := Aside0.mk (show wr.heap.size ≤ g8 by rw [hg8]; exact Nat.le_refl _); have Q := Aside0.mk hbx; clear H4 hbx hbl hg8; have H4 := n_H; clear n_H)
              | ((with_reducible refine gate_store (t := 43) (p := 8) rfl ?_); refine store_ev rfl rfl rfl (cells := #[.int .i64 y0, .int .i64 y1, .int .i64 y2, .int .i64 y3]) rfl rfl Q.out (by kernel_rfl) rfl (by kernel_rfl) ?_; intro w6 hbx hgr; have n_R := Aside0.mk (la_new R.out HX.out hgr G8.out); have n_H := Aside0.mk (below_put H4.out (Nat.le_trans H4z.out G8.out) hgr H4.out.size); have n_Q := Aside0.mk hbx; clear H4 Q hbx hgr R HX; have H4 := n_H; have Q := n_Q; have R := n_R; clear n_H n_Q n_R; have c0 : w6.cell? ⟨g8, 0, none⟩ = some (.int .i64 y0) := (blk_cell Q.out 0).trans rfl; have z0 : w6.cell? ⟨g3, 0, none⟩ = some (.int .i64 x0) := (H4.out.cell g34.out).trans K0.out)
              | ((with_reducible refine gate_dst (N := 57) rfl ?_); refine load_ev (N := 57) rfl rfl rfl (cs := #[.int .i64 x0, .int .i64 x1, .int .i64 x2, .int .i64 x3]) rfl ((H4.out.block g3 g34.out).trans X.out) Try.underlying43 rfl (by kernel_rfl) ?_)
              | ((with_reducible refine gate_builtin (b := .append) (xs := #[.tmp 56, .tmp 58]) rfl ?_); at_builtin; refine Kd.R_append k43 (w0 := w4) w4.heap.size rfl (.tmp 56) (.tmp 58) 36 43 (.agg #[.int .i64 0, .int .i64 0, .int .i64 0, .int .i64 0]) 32 rfl Try.underlying36 info43 rfl (by decide) (by decide) _ acc (⟨x0, x1, x2, x3⟩ : La) [.int .i64 x0, .int .i64 x1, .int .i64 x2, .int .i64 x3] (fun _ => True) (fun _ => False) rfl ?aX (k43_mkM _ _ _ ⟨x0, x1, x2, x3⟩) (fun _ hk => hk.elim) (fun _ _ => trivial) R.out H4.out H4.out.size ?aL ?_; (case aX => first | rfl | (go_simp; done) | (go_simp; rfl)); (case aL => (try simp only [List.length_append, List.length_cons, List.length_nil]); have := HN.out; omega); intro uw7 w7 ho hb hgr hat; have n_Q := Aside0.mk (blk_grown2 Q.out hgr NE.out); clear Q; have Q := n_Q; clear n_Q; have n_c := (blk_cell Q.out 0).trans (show _ = some (.int .i64 y0) from rfl); have n_z : w7.cell? ⟨g3, 0, none⟩ = some (.int .i64 x0) := (hb.cell g34.out).trans K0.out; clear R H4 hgr hat; have R := Aside0.mk ho; have H4 := Aside0.mk hb; clear ho hb))
            try clear hq1
            try clear hq2
            try clear hb1
            try clear c0
            try clear z0
            try clear n_c
            try clear n_z
            go_roundw
            case rel => exact ⟨i + 1, true, acc ++ [⟨x0, x1, x2, x3⟩], by go_num, rfl, by omega, ⟨by simp only [List.length_append]; have := HN.out; simp; omega⟩, ⟨fun _ => HPn.out⟩, ⟨by rw [← HL.out, E1.out]; simp⟩, R, H4⟩
            case measure => simp [intOf]; omega
          have E1 := Aside0.mk (HD4.out rfl (by omega))
          have hq1 : (y0 == x0) = false := beq_eq_false_iff_ne.2 h2
          have hq2 : decide (x0 ≤ y0) = false := decide_eq_false (by omega)
          clear h1 h2
          go_wp2_with (first
            | ((with_reducible refine gate_dst (N := 46) rfl ?_); refine load_evm' (N := 46) rfl rfl rfl (cs := #[.int .i64 y0, .int .i64 y1, .int .i64 y2, .int .i64 y3]) rfl hcs'.out Try.underlying43 rfl (by kernel_rfl) ?_)
            | ((with_reducible refine gate_dst (N := 8) rfl ?_); refine box_event rfl (N := 8) rfl (cs := #[.int .i64 0, .int .i64 0, .int .i64 0, .int .i64 0]) (t := 43) ?hr ?_; (case hr => first | (go_simp; done) | (go_simp; rfl)); intro g8 hg8 w5 hbx hbl; have n_H := Aside0.mk (below_step H4.out hbl); have HX := Aside0.mk hbl; have NE := Aside0.mk (la_ne R.out (show wr.heap.size ≤ g8 by rw [hg8]; exact Nat.le_refl _)); have G8 := Aside0.mk (show wr.heap.size ≤ g8 by rw [hg8]; exact Nat.le_refl _); have Q := Aside0.mk hbx; clear H4 hbx hbl hg8; have H4 := n_H; clear n_H)
            | ((with_reducible refine gate_store (t := 43) (p := 8) rfl ?_); refine store_ev rfl rfl rfl (cells := #[.int .i64 y0, .int .i64 y1, .int .i64 y2, .int .i64 y3]) rfl rfl Q.out (by kernel_rfl) rfl (by kernel_rfl) ?_; intro w6 hbx hgr; have n_R := Aside0.mk (la_new R.out HX.out hgr G8.out); have n_H := Aside0.mk (below_put H4.out (Nat.le_trans H4z.out G8.out) hgr H4.out.size); have n_Q := Aside0.mk hbx; clear H4 Q hbx hgr R HX; have H4 := n_H; have Q := n_Q; have R := n_R; clear n_H n_Q n_R; have c0 : w6.cell? ⟨g8, 0, none⟩ = some (.int .i64 y0) := (blk_cell Q.out 0).trans rfl; have z0 : w6.cell? ⟨g3, 0, none⟩ = some (.int .i64 x0) := (H4.out.cell g34.out).trans K0.out)
            | ((with_reducible refine gate_dst (N := 66) rfl ?_); refine load_ev (N := 66) rfl rfl rfl (cs := #[.int .i64 y0, .int .i64 y1, .int .i64 y2, .int .i64 y3]) rfl Q.out Try.underlying43 rfl (by kernel_rfl) ?_)
            | ((with_reducible refine gate_builtin (b := .append) (xs := #[.tmp 65, .tmp 67]) rfl ?_); at_builtin; refine Kd.R_append k43 (w0 := w4) w4.heap.size rfl (.tmp 65) (.tmp 67) 36 43 (.agg #[.int .i64 0, .int .i64 0, .int .i64 0, .int .i64 0]) 32 rfl Try.underlying36 info43 rfl (by decide) (by decide) _ acc (⟨y0, y1, y2, y3⟩ : La) [.int .i64 y0, .int .i64 y1, .int .i64 y2, .int .i64 y3] (fun _ => True) (fun _ => False) rfl ?aX (k43_mkM _ _ _ ⟨y0, y1, y2, y3⟩) (fun _ hk => hk.elim) (fun _ _ => trivial) R.out H4.out H4.out.size ?aL ?_; (case aX => first | rfl | (go_simp; done) | (go_simp; rfl)); (case aL => (try simp only [List.length_append, List.length_cons, List.length_nil]); have := HN.out; omega); intro uw7 w7 ho hb hgr hat; clear R H4 hgr hat; have R := Aside0.mk ho; have H4 := Aside0.mk hb; clear ho hb))
          try clear hq1
          try clear hq2
          try clear hb1
          try clear c0
          try clear z0
          try clear n_c
          try clear n_z
          go_roundw
          case rel => exact ⟨i + 1, false, acc ++ [⟨y0, y1, y2, y3⟩], by go_num, rfl, by omega, ⟨by simp only [List.length_append]; have := HN.out; simp; omega⟩, ⟨fun h => by cases h⟩, ⟨by rw [← HL.out, E1.out]; simp⟩, R, H4⟩
          case measure => simp [intOf]; omega
        · obtain rfl : i = l.length := by omega
          have e := HL.out
          rw [List.drop_length] at e
          have HE := Aside0.mk e
          clear e
          have Y4 := Aside0.mk ((H4.out.block g4 (Array.getElem?_eq_some_iff.1 Y.out).1).trans Y.out)
          by_cases hpt : pt = true
          · subst hpt
            obtain ⟨A2, c2, hv, hc2, _⟩ := Kd.R_reads R.out
            subst hv
            go_wp2_with (first
              | ((with_reducible refine gate_store (t := 40) (p := 4) rfl ?_); refine store_ev rfl rfl rfl (cells := #[.slice A2 acc.length c2, .int .i64 0]) rfl rfl Y4.out (by kernel_rfl) rfl (by kernel_rfl) ?_; intro wf hbx hgr; have n_B := Aside0.mk (below_put (below_step HB.out H4.out) G4.out hgr (below_step HB.out H4.out).size); have n_Y := Aside0.mk hbx; have n_R := Aside0.mk (Kd.R_mono (Kd.R_step (la_isW R.out) (fun k hk hlt => hgr.block k hlt (fun e => by have h9 := Y4.out; obtain ⟨cells, hk⟩ := hk; rw [Option.some.inj e, h9] at hk; cases hk))) (fun _ _ => trivial) : Kd.R k43 43 wf w4.heap.size (fun _ => True) _ _); clear hbx hgr))
            refine bodyPost_ret (results_cell_row rfl _ _ g4 40 #[.slice A2 acc.length c2, .int .i64 0] (0, 0) _ rfl n_Y.out Try.underlying40 rfl (by kernel_rfl)) rfl ?_
            first
            | refine ⟨_, _, _, rfl, fun _ => ?_, n_B.out⟩
            | refine ⟨_, _, _, rfl, ?_, n_B.out⟩
            rw [← HE.out]
            have h9 := Kd.R_lower n_R.out HB.out.size
            simpa [restD] using h9
          · have hpf : pt = false := by simpa using hpt
            clear hpt
            subst hpf
            have z3 := Aside0.mk ((H4.out.block g3 g34.out).trans X.out)
            go_wp2_with (first
              | ((with_reducible refine gate_dst (N := 73) rfl ?_); refine load_ev (N := 73) rfl rfl rfl (cs := #[.int .i64 x0, .int .i64 x1, .int .i64 x2, .int .i64 x3]) rfl z3.out Try.underlying43 rfl (by kernel_rfl) ?_)
              | ((with_reducible refine gate_builtin (b := .append) (xs := #[.tmp 72, .tmp 74]) rfl ?_); at_builtin; refine Kd.R_append k43 (w0 := w4) w4.heap.size rfl (.tmp 72) (.tmp 74) 36 43 (.agg #[.int .i64 0, .int .i64 0, .int .i64 0, .int .i64 0]) 32 rfl Try.underlying36 info43 rfl (by decide) (by decide) _ acc (⟨x0, x1, x2, x3⟩ : La) [.int .i64 x0, .int .i64 x1, .int .i64 x2, .int .i64 x3] (fun _ => True) (fun _ => False) rfl ?aX (k43_mkM _ _ _ ⟨x0, x1, x2, x3⟩) (fun _ hk => hk.elim) (fun _ _ => trivial) R.out H4.out H4.out.size ?aL ?_; (case aX => first | rfl | (go_simp; done) | (go_simp; rfl)); (case aL => (try simp only [List.length_append, List.length_cons, List.length_nil]); have := HN.out; omega); intro uw7 w7 ho hb hgr hat; have n_Y4 := Aside0.mk ((hb.block g4 (Array.getElem?_eq_some_iff.1 Y.out).1).trans Y.out); clear Y4; have Y4 := n_Y4; clear n_Y4; clear R H4 hgr hat; have R := Aside0.mk ho; have H4 := Aside0.mk hb; clear ho hb; obtain ⟨A2, c2, hv, hc2, _⟩ := Kd.R_reads R.out; obtain ⟨n3, hn3⟩ : ∃ n3, (acc ++ [(⟨x0, x1, x2, x3⟩ : La)]).length = n3 := ⟨_, rfl⟩; rw [hn3] at hv; subst hv; clear hn3 hc2)
              | ((with_reducible refine gate_store (t := 40) (p := 4) rfl ?_); refine store_ev rfl rfl rfl (cells := #[.slice A2 n3 c2, .int .i64 0]) rfl rfl Y4.out (by kernel_rfl) rfl (by kernel_rfl) ?_; intro wf hbx hgr; have n_B := Aside0.mk (below_put (below_step HB.out H4.out) G4.out hgr (below_step HB.out H4.out).size); have n_Y := Aside0.mk hbx; have n_R := Aside0.mk (Kd.R_mono (Kd.R_step (la_isW R.out) (fun k hk hlt => hgr.block k hlt (fun e => by have h9 := Y4.out; obtain ⟨cells, hk⟩ := hk; rw [Option.some.inj e, h9] at hk; cases hk))) (fun _ _ => trivial) : Kd.R k43 43 wf w4.heap.size (fun _ => True) _ _); clear hbx hgr))
            refine bodyPost_ret (results_cell_row rfl _ _ g4 40 #[.slice A2 n3 c2, .int .i64 0] (0, 0) _ rfl n_Y.out Try.underlying40 rfl (by kernel_rfl)) rfl ?_
            first
            | refine ⟨_, _, _, rfl, fun _ => ?_, n_B.out⟩
            | refine ⟨_, _, _, rfl, ?_, n_B.out⟩
            rw [← HE.out]
            exact Kd.R_lower n_R.out HB.out.size

end Go.Proofs.Ytgojaomldkgojaa.Dd
