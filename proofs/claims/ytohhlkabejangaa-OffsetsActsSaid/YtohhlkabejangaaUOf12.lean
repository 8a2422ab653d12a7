import Derived.Test.YtohhlkabejangaaUOf11
import Derived.Test.YtohhlkabejangaaUOfL
-- halved
namespace Go.Proofs.Ytohhlkabejangaa.Of
set_option linter.unusedVariables false
set_option linter.unusedSimpArgs false
open Go.RowKit Go.Maps Go.Sort Go.Lib Go.Shelf Go.Proofs.YtohhlkabejangaaW.PrintWords Go.Proofs.YtohhlkabejangaaW.PrintLast Go.Proofs.YtohhlkabejangaaW.PrintMore Go.Proofs.Ytohhlkabejangaa.POf Go.Proofs.Ytohhlkabejangaa.Wire
open Go.Proofs.YtohhlkabejangaaW.PrintWords.Aside0 renaming mk → mkA
open List renaming setIfInBounds_toArray → zsI, set_cons_zero → zs0, set_cons_succ → zs1
open Go.Proofs.YtohhlkabejangaaW.PrintWords renaming below_step → zbS
theorem load_run' {P : Program} {o : Oper} {a : Act} {W : World} {ty : TypeId} {p : Tmp} (ho : o.op = .load ty (.tmp p)) {g : Nat} (hx : a.eval (.tmp p) = .pointer (some ⟨g, 0, none⟩)) {t : TypeId} {cs : Array Value} {d : TypeDesc} (hg : W.heap[g]? = some (.cells cs t (0, 0)))
  (hu : P.underlying ty = some d) (hd : (match d with | .struct _ | .array _ _ => true | _ => false) = true) (hi : (P.info? ty).map (·.size) = some cs.size) : (execOp a.eval o).run P W = .ok (.value (.agg cs)) W := by
 unfold execOp
 simp only [ho, hx, Instr.loadAt, Instr.sureAddr, Sem.run_bind, Sem.run_pure, Result.andThen_ok, run_loadVar_row W g t ty cs (0, 0) d hg hu hd hi]
theorem gb_below {w w' : World} {r : Option Nat} (k : Below w.heap.size w w') : w.grownBy w' r := ⟨k.os, k.tape, k.output, k.size, fun i hi _ => k.block i hi⟩
theorem gb_trans {a b c : World} {r : Option Nat} (h : a.grownBy b r) (k : b.grownBy c r) : a.grownBy c r := h.andThen k (fun j hj => .inr hj)
theorem own_exact {W : World} {b n : Nat} {D : DataW Unit} (h : Own W b n D) : Own W b (Maps.size D) D := by
 obtain ⟨es, clock, hb, F, hs, rfl⟩ := h
 exact ⟨es, clock, hb, F, by show es.size ≤ _; exact Nat.le_of_eq (length_read es).symm, rfl⟩
theorem Tab.put {W W' : World} {a b n : Nat} {T T' : List Rw} {D : DataW Unit} (h : Tab W a b T) (ho : Own W' b n D) (hr : Rep D T') (hg : W.grownBy W' (some b)) : Tab W' a b T' :=
 ⟨(hg.block a h.lt (fun e => h.ne (Option.some.inj e))).trans h.cell, n, D, ho, hr⟩
theorem okK_of {g t : ByteArray} {p v : Int} (h : mayB g t p v = true) : okK ⟨g, t, p⟩ := by
 obtain ⟨⟨h1, h2⟩, h3, h4⟩ := mayB_iff.1 h
 have z1 := nameB_size h1
 have z2 := nameB_size h2
 exact ⟨by unfold maxLen; dsimp only; omega, by unfold maxLen; dsimp only; omega, by dsimp only; omega, by dsimp only; omega⟩
theorem text_calls (g : Nat) (s : ByteArray) (b : Bool) (t s' : ByteArray) (b' : Bool) (w0 w : World) (hI : IsS205 w0 w g s b) (hB : Below w0.heap.size w0 w) (hz : s.size ≤ 100000) (h : rdText (s, b) = (t, s', b')) :
  Calls Try.prog 129 #[.pointer (some ⟨g, 0, none⟩)] w fun e w' => e = .returned (.string t) ∧ IsS205 w0 w' g s' b' ∧ Below w0.heap.size w0 w' := by
 have hs := rdText_some (s, b) 50 (Nat.le_refl _) (show s.size ≤ _ by omega)
 rw [h] at hs
 refine (offsets_fields_text.calls 50 g s b t s' b' w0 w hI hB hs).mono ?_
 rintro e w' ⟨h1, h2, h3, _⟩
 exact ⟨h1, h2, h3⟩
theorem number_calls (g : Nat) (s : ByteArray) (b : Bool) (n : Int) (s' : ByteArray) (b' : Bool) (w0 w : World) (hI : IsS205 w0 w g s b) (hB : Below w0.heap.size w0 w) (h : rdNum (s, b) = (n, s', b')) :
  Calls Try.prog 130 #[.pointer (some ⟨g, 0, none⟩)] w fun e w' => e = .returned (.int .i64 n) ∧ IsS205 w0 w' g s' b' ∧ Below w0.heap.size w0 w' ∧ KeepBut w w' g none := by
 have hs := rdNum_some (s, b) 30 (Nat.le_refl _)
 rw [h] at hs
 exact offsets_fields_number.calls 30 g s b n s' b' w0 w hI hB hs
theorem rdText_size1 (r : Rd) : (rdText r).1.size ≤ r.1.size := by
 obtain ⟨_, _, h⟩ := ux_range r.1
 unfold rdText
 split
 ·exact Nat.zero_le _
 ·split
  ·exact h
  ·exact Nat.zero_le _
noncomputable def cmtB (T : List Rw) (s : ByteArray) : Bool := match okE s with
 | none => false
 | some x => roomB T x.g
noncomputable def cmtT (T : List Rw) (s : ByteArray) : List Rw := match okE s with
 | none => T
 | some x => if roomB T x.g = true then putT T ⟨⟨x.g, x.t, x.p⟩, x.v⟩ else T
set_option maxHeartbeats 16000000 in
set_option maxRecDepth 100000 in
theorem commit_tab (a b : Nat) (T : List Rw) (s : ByteArray) (hs : s.size ≤ 100000) (w : World) (h : Tab w a b T) (hn : T.length ≤ 1000000) :
  Calls Try.prog 92 #[.pointer (some ⟨a, 0, none⟩), .string s] w fun e w' => e = .returned (.bool (cmtB T s)) ∧ Tab w' a b (cmtT T s) ∧ w.grownBy w' (some b) := by
 have hund : ∀ b, some undef = some (Value.bool b) → False := fun b h => by simp [undef] at h
 obtain ⟨t1, s1, b1, r1⟩ : ∃ t s' b', rdText (s, false) = (t, s', b') := ⟨_, _, _, rfl⟩
 obtain ⟨t2, s2, b2, r2⟩ : ∃ t s' b', rdText (s1, b1) = (t, s', b') := ⟨_, _, _, rfl⟩
 obtain ⟨n3, s3, b3, r3⟩ : ∃ t s' b', rdNum (s2, b2) = (t, s', b') := ⟨_, _, _, rfl⟩
 obtain ⟨n4, s4, b4, r4⟩ : ∃ t s' b', rdNum (s3, b3) = (t, s', b') := ⟨_, _, _, rfl⟩
 have z1 : s1.size ≤ 100000 := by have := rdText_size (s, false); rw [r1] at this; exact Nat.le_trans this hs
 have y1 : t1.size ≤ 100000 := by have := rdText_size1 (s, false); rw [r1] at this; exact Nat.le_trans this hs
 have y2 : t2.size ≤ 100000 := by have := rdText_size1 (s1, b1); rw [r2] at this; exact Nat.le_trans this z1
 have HD := mkA (show decE s = if b4 = true then none else if s4.size = 0 then some ⟨t1, t2, n3, n4⟩ else none by unfold decE; rw [r1]; dsimp only; rw [r2]; dsimp only; rw [r3]; dsimp only; rw [r4])
 have HC1 := mkA (fun (g : Nat) (W : World) hI hB => text_calls g s false t1 s1 b1 w W hI hB hs r1)
 have HC2 := mkA (fun (g : Nat) (W : World) hI hB => text_calls g s1 b1 t2 s2 b2 w W hI hB z1 r2)
 have HC3 := mkA (fun (g : Nat) (W : World) hI hB => number_calls g s2 b2 n3 s3 b3 w W hI hB r3)
 have HC4 := mkA (fun (g : Nat) (W : World) hI hB => number_calls g s3 b3 n4 s4 b4 w W hI hB r4)
 have HM := mkA (fun (W : World) => offsets_may.calls 20 t1 t2 n3 n4 _ W (may_f t1 t2 n3 n4 (by omega) (by omega) 20 (Nat.le_refl _)))
 have HRM := mkA (fun (W : World) (h : Tab W a b T) => room_tab a b T t1 W h hn)
 have HT := mkA h
 have HB := mkA (Below.refl w.heap.size w)
 clear r1 r2 r3 r4 z1 y1 y2 hs h
 go_enter Try.func92, Try.ntmps92
 go_upto_region 3 with (first
  | ((with_reducible refine gate_dst (N := 10) rfl ?_); refine box_event rfl (N := 10) rfl (cs := #[.string s, .bool false]) (t := 205) ?hr ?_; (case hr => first | (go_simp; done) | (go_simp; rfl)); intro g hg w1 hbx hbl; have HI := mkA (show IsS205 w w1 g s false from ⟨hbx, by rw [hg]; exact HB.out.size⟩); have n_B := mkA (zbS HB.out hbl); clear HB hbx hg hbl; have HB := n_B; clear n_B)
  | (go_at_call 129; refine (HC1.out g _ HI.out HB.out).mono ?_; rintro e w2 ⟨rfl, hI, hB⟩; clear HI HB HC1; have HI := mkA hI; have HB := mkA hB; clear hI hB)
  | (go_at_call 129; refine (HC2.out g _ HI.out HB.out).mono ?_; rintro e w3 ⟨rfl, hI, hB⟩; clear HI HB HC2; have HI := mkA hI; have HB := mkA hB; clear hI hB)
  | (go_at_call 130; refine (HC3.out g _ HI.out HB.out).mono ?_; rintro e w4 ⟨rfl, hI, hB, _⟩; clear HI HB HC3; have HI := mkA hI; have HB := mkA hB; clear hI hB)
  | ((with_reducible refine gate_dst (N := 6) rfl ?_); refine box_event rfl (N := 6) rfl (cs := #[.string ⟨#[]⟩, .string ⟨#[]⟩, .int .i64 0]) (t := 74) ?hr ?_; (case hr => first | (go_simp; done) | (go_simp; rfl)); intro g6 hg6 w5 hbx hbl; have N6 := mkA (show g ≠ g6 from fun e => by have := HI.out.lt; omega); have G6 := mkA (show w.heap.size ≤ g6 by rw [hg6]; exact HB.out.size); have n_I := mkA (HI.out.below hbl); have n_B := mkA (zbS HB.out hbl); have Y := mkA hbx; clear HI HB hbx hbl hg6; have HI := n_I; have HB := n_B; clear n_I n_B)
  | ((with_reducible refine gate_store (t := 74) (p := 6) rfl ?_); refine store_ev rfl rfl rfl (cells := #[.string t1, .string t2, .int .i64 n3]) rfl rfl Y.out (by kernel_rfl) rfl (by kernel_rfl) ?_; intro w6 hbx hgr; have n_I := mkA (HI.out.grown hgr (fun e => N6.out (Option.some.inj e))); have n_B := mkA (below_put HB.out G6.out hgr HB.out.size); have YY := mkA hbx; clear HI HB Y hbx hgr; have HI := n_I; have HB := n_B; clear n_I n_B))
 go_upto_region 4 with (first
  | (go_at_call 130; refine (HC4.out g _ HI.out HB.out).mono ?_; rintro e w7 ⟨rfl, hI, hB, hk⟩; have n_Y := mkA (show w7.heap[g6]? = some (.cells #[.string t1, .string t2, .int .i64 n3] 74 (0, 0)) from (hk.2 g6 (blk_lt YY.out) (Ne.symm N6.out) (by simp)).trans YY.out); clear HI HB HC4 YY hk; have HI := mkA hI; have HB := mkA hB; have YY := n_Y; clear hI hB n_Y))
 have g0 : w7.cell? ⟨g, 0, none⟩ = some (.string s4) := (blk_cell HI.out.1 0).trans rfl
 have g1 : w7.cell? ⟨g, 1, none⟩ = some (.bool b4) := (blk_cell HI.out.1 1).trans rfl
 have k60 : w7.cell? ⟨g6, 0, none⟩ = some (.string t1) := (blk_cell YY.out 0).trans rfl
 have k61 : w7.cell? ⟨g6, 1, none⟩ = some (.string t2) := (blk_cell YY.out 1).trans rfl
 have k62 : w7.cell? ⟨g6, 2, none⟩ = some (.int .i64 n3) := (blk_cell YY.out 2).trans rfl
 have HT7 := mkA (HT.out.later HB.out)
 clear HT
 cases b4 with
 | true =>
  have HE := mkA (show okE s = none by unfold okE; rw [HD.out]; rfl)
  clear HD HM HRM
  go_wp2_with fail
  go_ret
  exact ⟨by unfold cmtB; rw [HE.out]; rfl, by unfold cmtT; rw [HE.out]; exact HT7.out, gb_below HB.out⟩
 | false =>
  by_cases hz : s4.size = 0
  ·have hz1 : s4.toList = [] := (Go.Proofs.Ytohhlkabejangaa.PureNums.nil_size s4).2 hz
   have HD2 := mkA (show decE s = some ⟨t1, t2, n3, n4⟩ by rw [HD.out, if_neg (by simp), if_pos hz])
   clear HD hz
   obtain ⟨M, hM⟩ : ∃ M, mayB t1 t2 n3 n4 = M := ⟨_, rfl⟩
   have HMB := mkA hM
   rw [hM] at HM
   clear hM
   cases M with
   | false =>
    have HE := mkA (show okE s = none by unfold okE; rw [HD2.out]; dsimp only; rw [HMB.out]; rfl)
    clear HD2 HMB HRM
    go_wp2_with (first
     | (go_at_call 97; refine (HM.out _).mono ?_; rintro e w8 ⟨rfl, hb⟩; have n_B := mkA (zbS HB.out hb); have n_T := mkA (HT7.out.later hb); have n_Y := mkA ((hb.block g6 (blk_lt YY.out)).trans YY.out); clear HB HT7 YY hb; have HB := n_B; have HT7 := n_T; have YY := n_Y; clear n_B n_T n_Y; have g60 : w8.cell? ⟨g6, 0, none⟩ = some (.string t1) := (blk_cell YY.out 0).trans rfl))
    go_ret
    exact ⟨by unfold cmtB; rw [HE.out]; rfl, by unfold cmtT; rw [HE.out]; exact HT7.out, gb_below HB.out⟩
   | true =>
    have HE := mkA (show okE s = some ⟨t1, t2, n3, n4⟩ by unfold okE; rw [HD2.out]; dsimp only; rw [HMB.out]; rfl)
    have HOK := mkA (okK_of HMB.out)
    have HRV := mayB_iff.1 HMB.out
    have hv4 : 0 ≤ n4 ∧ n4 ≤ 1048577 := HRV.2.2
    clear HD2 HMB HRV
    obtain ⟨M, hM⟩ : ∃ M, roomB T t1 = M := ⟨_, rfl⟩
    have HMB := mkA hM
    rw [hM] at HRM
    clear hM
    cases M with
    | false =>
     go_wp2_with (first
      | (go_at_call 97; refine (HM.out _).mono ?_; rintro e w8 ⟨rfl, hb⟩; have n_B := mkA (zbS HB.out hb); have n_T := mkA (HT7.out.later hb); have n_Y := mkA ((hb.block g6 (blk_lt YY.out)).trans YY.out); clear HB HT7 YY hb; have HB := n_B; have HT7 := n_T; have YY := n_Y; clear n_B n_T n_Y; have g60 : w8.cell? ⟨g6, 0, none⟩ = some (.string t1) := (blk_cell YY.out 0).trans rfl)
      | (go_at_call 98; refine (HRM.out _ HT7.out).mono ?_; rintro e w9 ⟨rfl, hb⟩; have n_B := mkA (zbS HB.out hb); have n_T := mkA (HT7.out.later hb); have n_Y := mkA ((hb.block g6 (blk_lt YY.out)).trans YY.out); clear HB HT7 YY hb; have HB := n_B; have HT7 := n_T; have YY := n_Y; clear n_B n_T n_Y))
     go_ret
     exact ⟨by unfold cmtB; rw [HE.out]; exact HMB.out.symm ▸ rfl, by unfold cmtT; rw [HE.out]; dsimp only; rw [if_neg (by rw [HMB.out]; simp)]; exact HT7.out, gb_below HB.out⟩
    | true =>
     go_upto_region 6 with (first
      | (go_at_call 97; refine (HM.out _).mono ?_; rintro e w8 ⟨rfl, hb⟩; have n_B := mkA (zbS HB.out hb); have n_T := mkA (HT7.out.later hb); have n_Y := mkA ((hb.block g6 (blk_lt YY.out)).trans YY.out); clear HB HT7 YY hb; have HB := n_B; have HT7 := n_T; have YY := n_Y; clear n_B n_T n_Y; have g60 : w8.cell? ⟨g6, 0, none⟩ = some (.string t1) := (blk_cell YY.out 0).trans rfl)
      | (go_at_call 98; refine (HRM.out _ HT7.out).mono ?_; rintro e w9 ⟨rfl, hb⟩; have n_B := mkA (zbS HB.out hb); have n_T := mkA (HT7.out.later hb); have n_Y := mkA ((hb.block g6 (blk_lt YY.out)).trans YY.out); clear HB HT7 YY hb; have HB := n_B; have HT7 := n_T; have YY := n_Y; clear n_B n_T n_Y))
     refine start_ (n := 7) (S := fun w' => w'.cell? ⟨a, 0, none⟩ = some (.map (some b)) ∧ w'.heap[g6]? = some (.cells #[.string t1, .string t2, .int .i64 n3] 74 (0, 0))) (ds := []) #[false, false, false, false, false, false, false] (by kernel_rfl) rfl rfl ⟨HT7.out.c, YY.out⟩ (fun _ => ?_)
     have n_HB := mkA (below_drew1 HB.out)
     have n_YY := mkA (show w9.drew.heap[g6]? = some (.cells #[.string t1, .string t2, .int .i64 n3] 74 (0, 0)) from YY.out)
     have n_HT7 := mkA (HT7.out.later (below_drew1 (Below.refl _ _)))
     clear HB YY HT7
     have HB := n_HB
     have YY := n_YY
     have HT7 := n_HT7
     clear n_HB n_YY n_HT7
     generalize w9.drew = V0 at *
     refine pure_ (i := 0) (N := some 45) (v := ?_) (a' := ?_) #[true, false, false, false, false, false, false] rfl rfl (by kernel_rfl) (fun _ _ _ h => h) (Or.inl ⟨by rfl, ?_⟩) ?_ ?_
     rotate_left
     ·intro w'
      go_simp
      with_reducible rfl
     rotate_left
     ·simp only [Act.put, zsI, zs0, zs1]
      rfl
     refine pure_ (i := 1) (N := some 46) (v := ?_) (a' := ?_) #[true, true, false, false, false, false, false] rfl rfl (by kernel_rfl) (fun _ _ _ h => h) (Or.inl ⟨by rfl, ?_⟩) ?_ ?_
     rotate_left
     ·intro w'
      go_simp
      with_reducible rfl
     rotate_left
     ·simp only [Act.put, zsI, zs0, zs1]
      rfl
     refine pure_ (i := 2) (N := some 47) (v := ?_) (a' := ?_) #[true, true, true, false, false, false, false] rfl rfl (by kernel_rfl) (fun _ _ _ h => h) (Or.inl ⟨by rfl, ?_⟩) ?_ ?_
     rotate_left
     ·intro w'
      go_simp
      with_reducible rfl
     rotate_left
     ·simp only [Act.put, zsI, zs0, zs1]
      rfl
     refine take_ (i := 3) (N := some 48) (v := ?_) (a' := ?_) #[true, true, true, true, false, false, false] rfl rfl (by kernel_rfl) (fun _ _ _ h => h) (Or.inl ⟨by rfl, ?_⟩) ⟨HT7.out.c, YY.out⟩ ?_ ?_
     rotate_left
     ·intro w' hS
      obtain ⟨h1, h2⟩ := hS
      go_simp
      with_reducible rfl
     rotate_left
     ·simp only [Act.put, zsI, zs0, zs1]
      rfl
     refine take_ (i := 4) (N := some 49) (v := .agg #[.string t1, .string t2, .int .i64 n3]) (a' := ?_) #[true, true, true, true, true, false, false] rfl rfl (by kernel_rfl) (fun _ _ _ h => h) (Or.inl ⟨by rfl, fun w' hS => load_run' (p := 6) rfl rfl hS.2 Try.underlying74 rfl (by kernel_rfl)⟩) ⟨HT7.out.c, YY.out⟩ ?_ ?_
     rotate_left
     ·simp only [Act.put, zsI, zs0, zs1]
      rfl
     refine pure_ (i := 5) (N := some 50) (v := ?_) (a' := ?_) #[true, true, true, true, true, true, false] rfl rfl (by kernel_rfl) (fun _ _ _ h => h) (Or.inl ⟨by rfl, ?_⟩) ?_ ?_
     rotate_left
     ·intro w'
      go_simp
      with_reducible rfl
     rotate_left
     ·simp only [Act.put, zsI, zs0, zs1]
      rfl
     refine one_ (i := 6) (N := none) #[true, true, true, true, true, true, true] rfl rfl (by kernel_rfl) (by simp) (fun K hK => ?_)
     obtain ⟨n0, D, ho, hr⟩ := HT7.out.own
     have ho2 := own_exact ho
     obtain ⟨w10, hrun, hown, hgr⟩ := ho2.update keyed Try.underlying154 (by rw [hr.size]; unfold maxLen; omega) (keyOf_mk HOK.out) (plainElem_int Try.underlying3 (show (Lit.int .i64 n4).wf = true from WalkArith.wf_i64 (by omega)))
     have n_T := mkA (HT7.out.put hown (rep_put hr (x := ⟨⟨t1, t2, n3⟩, n4⟩) HOK.out) hgr)
     have n_G := mkA (gb_trans (gb_below HB.out) hgr)
     have n_Y := mkA (show w10.heap[g6]? = some (.cells #[.string t1, .string t2, .int .i64 n3] 74 (0, 0)) from (hgr.block g6 (blk_lt YY.out) (fun e => by have h1 := YY.out; obtain ⟨_, _, h2, _⟩ := ho2; rw [Option.some.inj e, h2] at h1; cases h1)).trans YY.out)
     unfold valK at hrun
     refine skip_ (w1 := w10) (by rfl) rfl (by simp [execOp, Act.eval, hrun, Result.andThen]) (hK.out _ _ ⟨n_T.out.c, n_Y.out⟩ (fun _ => ?_))
     clear hK K hrun hown hgr ho ho2 hr
     refine done_ (by kernel_rfl) ?_
     go_wp2_with fail
     go_ret
     exact ⟨by unfold cmtB; rw [HE.out]; exact HMB.out.symm ▸ rfl, by unfold cmtT; rw [HE.out]; dsimp only; rw [if_pos HMB.out]; exact n_T.out, n_G.out⟩
  ·have HE := mkA (show okE s = none by unfold okE; rw [HD.out, if_neg (by simp), if_neg hz])
   have hz1 : ¬ s4.toList = [] := fun e => hz ((Go.Proofs.Ytohhlkabejangaa.PureNums.nil_size s4).1 e)
   clear HD HM HRM hz
   go_wp2_with fail
   go_ret
   exact ⟨by unfold cmtB; rw [HE.out]; rfl, by unfold cmtT; rw [HE.out]; exact HT7.out, gb_below HB.out⟩
end Go.Proofs.Ytohhlkabejangaa.Of
