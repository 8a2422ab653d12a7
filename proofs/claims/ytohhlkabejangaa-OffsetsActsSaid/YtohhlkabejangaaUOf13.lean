import Derived.Test.YtohhlkabejangaaUOf12
-- halved
namespace Go.Proofs.Ytohhlkabejangaa.Of
set_option linter.unusedVariables false
set_option linter.unusedSimpArgs false
open Go.RowKit Go.Maps Go.Sort Go.Lib Go.Shelf Go.Proofs.YtohhlkabejangaaW.PrintWords Go.Proofs.YtohhlkabejangaaW.PrintLast Go.Proofs.YtohhlkabejangaaW.PrintMore Go.Proofs.Ytohhlkabejangaa.POf Go.Proofs.Ytohhlkabejangaa.Wire
open Go.Proofs.YtohhlkabejangaaW.PrintWords.Aside0 renaming mk → mkA
open List renaming setIfInBounds_toArray → zsI, set_cons_zero → zs0, set_cons_succ → zs1
open Go.Proofs.YtohhlkabejangaaW.PrintWords renaming below_step → zbS
theorem name_calls (x : ByteArray) (hx : x.size ≤ 100000) (W : World) : Calls Try.prog 74 #[.string x] W fun e w' => e = .returned (.bool (nameB x)) ∧ Below W.heap.size W w' := by
 refine (topic_Name.calls 20 x _ W (name_eq x (by omega) 20 (Nat.le_refl _))).mono ?_
 rintro e w' ⟨rfl, ⟨nd, rfl⟩⟩
 exact ⟨rfl, pw_below_drewN (Below.refl _ _) nd⟩
theorem RowK.far {W W' : World} {A : Option Addr} {ys : List Ky} {b : Nat} (h : RowK W A ys) (hg : W.grownBy W' (some b)) (hm : ∀ cells t f, W.heap[b]? ≠ some (.cells cells t f)) : RowK W' A ys := fun hn => by
 obtain ⟨g, cur, e, h1, h2⟩ := h hn
 exact ⟨g, cur, e, (hg.block g (Array.getElem?_eq_some_iff.1 h1).1 (fun e => by rw [Option.some.inj e] at h1; exact hm _ _ _ h1)).trans h1, h2⟩
theorem Tab.map {W : World} {a b : Nat} {T : List Rw} (h : Tab W a b T) : ∀ cells t f, W.heap[b]? ≠ some (.cells cells t f) := fun _ _ _ e => by
 obtain ⟨n, D, ⟨es, clock, hb, _⟩, _⟩ := h.own
 rw [e] at hb
 cases hb
noncomputable def okC (s : ByteArray) : Option ByteArray :=
 if (rdText (s, false)).2.2 = true then none else if (rdText (s, false)).2.1.size = 0 then (if nameB (rdText (s, false)).1 = true then some (rdText (s, false)).1 else none) else none
def witT (T : List Rw) (n : ByteArray) : List Rw := T.filter (fun r => !decide (r.k.t = n))
noncomputable def clrT (T : List Rw) (s : ByteArray) : List Rw := match okC s with
 | none => T
 | some n => witT T n
def midT (T : List Rw) (n : ByteArray) (j : Nat) : List Rw := witT (T.take j) n ++ T.drop j
theorem midT_stay (T : List Rw) (n : ByteArray) (j : Nat) (hj : j < T.length) (h : ¬ T[j].k.t = n) : midT T n (j + 1) = midT T n j := by
 unfold midT witT
 rw [List.take_succ_eq_append_getElem hj, List.filter_append, List.append_assoc, List.drop_eq_getElem_cons hj]
 congr 1
 rw [List.filter_cons_of_pos (by simp [h])]
 rfl
theorem midT_gone (T : List Rw) (n : ByteArray) (j : Nat) (hj : j < T.length) (hr : T.Pairwise (fun a b => kLt a.k b.k)) (h : T[j].k.t = n) : (midT T n j).filter (fun r => !decide (r.k = T[j].k)) = midT T n (j + 1) := by
 have e : T = T.take j ++ T[j] :: T.drop (j + 1) := by rw [← List.drop_eq_getElem_cons hj, List.take_append_drop]
 have hr2 := hr
 rw [e] at hr2
 obtain ⟨_, h2, h3⟩ := List.pairwise_append.1 hr2
 obtain ⟨h4, _⟩ := List.pairwise_cons.1 h2
 unfold midT witT
 rw [List.take_succ_eq_append_getElem hj, List.filter_append, List.filter_append, List.drop_eq_getElem_cons hj, List.filter_cons_of_neg (by simp), List.filter_cons_of_neg (by simp [h]), List.filter_nil, List.append_nil]
 congr 1
 ·rw [List.filter_filter]
  refine List.filter_congr (fun r hr => ?_)
  have hne : r.k ≠ T[j].k := fun q => kLt_irr _ (q ▸ h3 r hr T[j] (List.mem_cons.2 (.inl rfl)))
  simp [hne]
 ·refine List.filter_eq_self.2 (fun r hr => ?_)
  have hne : r.k ≠ T[j].k := fun q => kLt_irr _ (q ▸ h4 r hr)
  simp [hne]
theorem midT_end (T : List Rw) (n : ByteArray) : midT T n T.length = witT T n := by
 unfold midT
 rw [List.take_length, List.drop_length, List.append_nil]
theorem midT_start (T : List Rw) (n : ByteArray) : midT T n 0 = T := by
 unfold midT witT
 simp
set_option maxHeartbeats 16000000 in
set_option maxRecDepth 100000 in
theorem clear_tab (a b : Nat) (T : List Rw) (s : ByteArray) (hs : s.size ≤ 100000) (w : World) (h : Tab w a b T) (hn : T.length ≤ 1000000) :
  Calls Try.prog 93 #[.pointer (some ⟨a, 0, none⟩), .string s] w fun e w' => e = .returned (.bool (okC s).isSome) ∧ Tab w' a b (clrT T s) ∧ w.grownBy w' (some b) := by
 have hund : ∀ b, some undef = some (Value.bool b) → False := fun b h => by simp [undef] at h
 obtain ⟨t1, s1, b1, r1⟩ : ∃ t s' b', rdText (s, false) = (t, s', b') := ⟨_, _, _, rfl⟩
 have y1 : t1.size ≤ 100000 := by have := rdText_size1 (s, false); rw [r1] at this; exact Nat.le_trans this hs
 have HD := mkA (show okC s = if b1 = true then none else if s1.size = 0 then (if nameB t1 = true then some t1 else none) else none by unfold okC; rw [r1])
 have HC1 := mkA (fun (g : Nat) (W : World) hI hB => text_calls g s false t1 s1 b1 w W hI hB hs r1)
 have HM := mkA (fun (W : World) => name_calls t1 y1 W)
 have HKY := mkA (fun (W : World) (h : Tab W a b T) => keys_tab a b T W h hn)
 have HRI := mkA (show T.Pairwise (fun a b => kLt a.k b.k) by obtain ⟨_, _, _, q⟩ := h.own; exact q.ris)
 have HOKS := mkA (show ∀ r ∈ T, okK r.k by obtain ⟨_, _, _, q⟩ := h.own; exact q.ok)
 have HT := mkA h
 have HB := mkA (Below.refl w.heap.size w)
 clear r1 y1 hs h
 go_enter Try.func93, Try.ntmps93
 go_upto_region 3 with (first
  | ((with_reducible refine gate_dst (N := 11) rfl ?_); refine box_event rfl (N := 11) rfl (cs := #[.string s, .bool false]) (t := 205) ?hr ?_; (case hr => first | (go_simp; done) | (go_simp; rfl)); intro g hg w1 hbx hbl; have HI := mkA (show IsS205 w w1 g s false from ⟨hbx, by rw [hg]; exact HB.out.size⟩); have n_B := mkA (zbS HB.out hbl); clear HB hbx hg hbl; have HB := n_B; clear n_B)
  | (go_at_call 129; refine (HC1.out g _ HI.out HB.out).mono ?_; rintro e w7 ⟨rfl, hI, hB⟩; clear HI HB HC1; have HI := mkA hI; have HB := mkA hB; clear hI hB))
 have g0 : w7.cell? ⟨g, 0, none⟩ = some (.string s1) := (blk_cell HI.out.1 0).trans rfl
 have g1 : w7.cell? ⟨g, 1, none⟩ = some (.bool b1) := (blk_cell HI.out.1 1).trans rfl
 have HT7 := mkA (HT.out.later HB.out)
 clear HT
 cases b1 with
 | true =>
  have HE := mkA (show okC s = none by rw [HD.out]; rfl)
  clear HD HM HKY
  go_wp2_with fail
  go_ret
  exact ⟨by rw [HE.out]; rfl, by unfold clrT; rw [HE.out]; exact HT7.out, gb_below HB.out⟩
 | false =>
  by_cases hz : s1.size = 0
  ·have hz1 : s1.toList = [] := (Go.Proofs.Ytohhlkabejangaa.PureNums.nil_size s1).2 hz
   have HD2 := mkA (show okC s = if nameB t1 = true then some t1 else none by rw [HD.out, if_neg (by simp), if_pos hz])
   clear HD hz
   obtain ⟨M, hM⟩ : ∃ M, nameB t1 = M := ⟨_, rfl⟩
   rw [hM] at HM HD2
   clear hM
   cases M with
   | false =>
    have HE := mkA (show okC s = none by rw [HD2.out]; rfl)
    clear HD2 HKY
    go_wp2_with (first
     | (go_at_call 74; refine (HM.out _).mono ?_; rintro e w8 ⟨rfl, hb⟩; have n_B := mkA (zbS HB.out hb); have n_T := mkA (HT7.out.later hb); clear HB HT7 hb; have HB := n_B; have HT7 := n_T; clear n_B n_T))
    go_ret
    exact ⟨by rw [HE.out]; rfl, by unfold clrT; rw [HE.out]; exact HT7.out, gb_below HB.out⟩
   | true =>
    have HE := mkA (show okC s = some t1 by rw [HD2.out]; rfl)
    clear HD2
    go_wp2_with (first
     | (go_at_call 74; refine (HM.out _).mono ?_; rintro e w8 ⟨rfl, hb⟩; have n_B := mkA (zbS HB.out hb); have n_T := mkA (HT7.out.later hb); clear HB HT7 hb; have HB := n_B; have HT7 := n_T; clear n_B n_T)
     | (go_at_call 47; refine (HKY.out _ HT7.out).mono ?_; rintro e w9 ⟨A, c, rfl, hR, hb⟩; have n_B := mkA (zbS HB.out hb); have n_T := mkA (HT7.out.later hb); have HR := mkA hR; clear HB HT7 hb hR; have HB := n_B; have HT7 := n_T; clear n_B n_T))
    have HLEN := mkA (show (T.map (·.k)).length = T.length from List.length_map ..)
    go_loopw [33] (fun iv wr => ∃ (j : Nat), iv = .int .i64 j ∧ j ≤ T.length ∧ Aside0 (Tab wr a b (midT T t1 j)) ∧ Aside0 (RowK wr A (T.map (·.k))) ∧ Aside0 (w.grownBy wr (some b))) (fun iv _ => T.length - (intOf iv).toNat)
    case atStart => exact ⟨0, rfl, Nat.zero_le _, ⟨by rw [midT_start]; exact HT7.out⟩, HR, ⟨gb_below HB.out⟩⟩
    case round =>
     clear HB HR HT7
     obtain ⟨j, rfl, hj, HT, HR, HG⟩ := hrel
     by_cases hlt : j < T.length
     ·obtain ⟨ad, hAd, hcs⟩ := at_key HR.out j (by rw [HLEN.out]; exact hlt)
      rw [List.getElem_map] at hcs
      have HST := mkA (midT_stay T t1 j hlt)
      have HGO := mkA (midT_gone T t1 j hlt HRI.out)
      have HOK := mkA (HOKS.out T[j] (List.getElem_mem hlt))
      have HX := mkA (Below.refl wr.heap.size wr)
      subst hAd
      obtain ⟨y, hy⟩ : ∃ y, T[j] = y := ⟨_, rfl⟩
      simp only [hy] at hcs HST HGO HOK
      clear hy
      obtain ⟨⟨x0, x1, x2⟩, xv⟩ := y
      have HCS := mkA (show ∀ (j_1 : Nat) (u : Value), (#[.string x0, .string x1, .int .i64 x2] : Array Value)[j_1]? = some u → wr.cell? ((ad.add (j * 3)).add j_1) = some u from hcs)
      clear hcs
      have k1 : decide ((j : Int) < (T.length : Int)) = true := decide_eq_true (by omega)
      have k2 : (0 ≤ (j : Int)) = True := eq_true (by omega)
      have k3 : ((j : Int) < (T.length : Int)) = True := eq_true (by omega)
      have hwj : wrap64 ((j : Int) + 1) = (j : Int) + 1 := w64o _ (by omega) (by omega)
      by_cases hc : x1 = t1
      ·have e1 : (x1.toList == t1.toList) = true := by rw [ne_lists]; exact decide_eq_true hc
       have HF := mkA (HGO.out hc)
       clear hc HST HGO
       go_upto_region 9 with (first
        | ((with_reducible refine gate_dst (N := 36) rfl ?_); refine load_evm' (N := 36) rfl rfl rfl (cs := #[.string x0, .string x1, .int .i64 x2]) rfl HCS.out Try.underlying74 rfl (by kernel_rfl) ?_)
        | ((with_reducible refine gate_dst (N := 8) rfl ?_); refine box_event rfl (N := 8) rfl (cs := #[.string ⟨#[]⟩, .string ⟨#[]⟩, .int .i64 0]) (t := 74) ?hr ?_; (case hr => first | (go_simp; done) | (go_simp; rfl)); intro g8 hg8 w3 hbx hbl; have HX1 := mkA (zbS HX.out hbl); have G6 := mkA (show _ ≤ g8 by rw [hg8]; exact HX.out.size); have Y := mkA hbx; clear hbx hbl hg8 HX)
        | ((with_reducible refine gate_store (t := 74) (p := 8) rfl ?_); refine store_ev rfl rfl rfl (cells := #[.string x0, .string x1, .int .i64 x2]) rfl rfl Y.out (by kernel_rfl) rfl (by kernel_rfl) ?_; intro w4 hbx hgr; have HX := mkA (below_put HX1.out G6.out hgr HX1.out.size); have YY := mkA hbx; clear HX1 Y hbx hgr; have y1c : w4.cell? ⟨g8, 1, none⟩ = some (.string x1) := (blk_cell YY.out 1).trans rfl))
       have n_HT := mkA (HT.out.later HX.out)
       have n_HR := mkA (HR.out.later HX.out)
       have n_HG := mkA (gb_trans HG.out (gb_below HX.out))
       clear HT HR HG HX G6 y1c HCS
       have HT := n_HT
       have HR := n_HR
       have HG := n_HG
       clear n_HT n_HR n_HG
       refine start_ (n := 6) (S := fun w' => w'.cell? ⟨a, 0, none⟩ = some (.map (some b)) ∧ w'.heap[g8]? = some (.cells #[.string x0, .string x1, .int .i64 x2] 74 (0, 0))) (ds := []) #[false, false, false, false, false, false] (by kernel_rfl) rfl rfl ⟨HT.out.c, YY.out⟩ (fun _ => ?_)
       have n_YY := mkA (show w4.drew.heap[g8]? = some (.cells #[.string x0, .string x1, .int .i64 x2] 74 (0, 0)) from YY.out)
       have n_HT := mkA (HT.out.later (below_drew1 (Below.refl _ _)))
       have n_HR := mkA (HR.out.later (below_drew1 (Below.refl _ _)))
       have n_HG := mkA (gb_trans HG.out (gb_below (below_drew1 (Below.refl _ _))))
       clear YY HT HR HG
       have YY := n_YY
       have HT := n_HT
       have HR := n_HR
       have HG := n_HG
       clear n_YY n_HT n_HR n_HG
       generalize w4.drew = V0 at *
       refine pure_ (i := 0) (N := some 42) (v := ?_) (a' := ?_) #[true, false, false, false, false, false] rfl rfl (by kernel_rfl) (fun _ _ _ h => h) (Or.inl ⟨by rfl, ?_⟩) ?_ ?_
       rotate_left
       ·intro w'
        go_simp
        with_reducible rfl
       rotate_left
       ·simp only [Act.put, zsI, zs0, zs1]
        rfl
       refine pure_ (i := 1) (N := some 43) (v := ?_) (a' := ?_) #[true, true, false, false, false, false] rfl rfl (by kernel_rfl) (fun _ _ _ h => h) (Or.inl ⟨by rfl, ?_⟩) ?_ ?_
       rotate_left
       ·intro w'
        go_simp
        with_reducible rfl
       rotate_left
       ·simp only [Act.put, zsI, zs0, zs1]
        rfl
       refine pure_ (i := 2) (N := some 44) (v := ?_) (a' := ?_) #[true, true, true, false, false, false] rfl rfl (by kernel_rfl) (fun _ _ _ h => h) (Or.inl ⟨by rfl, ?_⟩) ?_ ?_
       rotate_left
       ·intro w'
        go_simp
        with_reducible rfl
       rotate_left
       ·simp only [Act.put, zsI, zs0, zs1]
        rfl
       refine take_ (i := 3) (N := some 45) (v := ?_) (a' := ?_) #[true, true, true, true, false, false] rfl rfl (by kernel_rfl) (fun _ _ _ h => h) (Or.inl ⟨by rfl, ?_⟩) ⟨HT.out.c, YY.out⟩ ?_ ?_
       rotate_left
       ·intro w' hS
        obtain ⟨h1, h2⟩ := hS
        go_simp
        with_reducible rfl
       rotate_left
       ·simp only [Act.put, zsI, zs0, zs1]
        rfl
       refine take_ (i := 4) (N := some 46) (v := .agg #[.string x0, .string x1, .int .i64 x2]) (a' := ?_) #[true, true, true, true, true, false] rfl rfl (by kernel_rfl) (fun _ _ _ h => h) (Or.inl ⟨by rfl, fun w' hS => load_run' (p := 8) rfl rfl hS.2 Try.underlying74 rfl (by kernel_rfl)⟩) ⟨HT.out.c, YY.out⟩ ?_ ?_
       rotate_left
       ·simp only [Act.put, zsI, zs0, zs1]
        rfl
       refine one_ (i := 5) (N := none) #[true, true, true, true, true, true] rfl rfl (by kernel_rfl) (by simp) (fun K hK => ?_)
       obtain ⟨n0, D, ho, hr⟩ := HT.out.own
       obtain ⟨w10, hrun, hown, htn⟩ := ho.drop keyed Try.underlying154 (keyOf_mk HOK.out) 0
       have n_T := mkA (HT.out.put hown (rep_del hr HOK.out) htn.grown)
       have n_R := mkA (HR.out.far htn.grown HT.out.map)
       have n_G := mkA (gb_trans HG.out htn.grown)
       have n_Y := mkA (show w10.heap[g8]? = some (.cells #[.string x0, .string x1, .int .i64 x2] 74 (0, 0)) from (htn.grown.block g8 (blk_lt YY.out) (fun e => by have h1 := YY.out; rw [Option.some.inj e] at h1; exact HT.out.map _ _ _ h1)).trans YY.out)
       unfold valK at hrun
       rw [if_pos (by rfl)]
       unfold Oper.wp
       simp [execOp, resolve, invoke, builtin, Act.eval, hrun, Result.andThen]
       refine hK.out _ _ ⟨n_T.out.c, n_Y.out⟩ (fun _ => ?_)
       clear hK K hrun hown htn ho hr HT HR HG YY
       have HT := n_T
       have HR := n_R
       have HG := n_G
       clear n_T n_R n_G n_Y
       refine done_ (by kernel_rfl) ?_
       rw [HF.out] at HT
       go_wp2_with fail
       go_roundw
       case rel => exact ⟨j + 1, by first | rfl | simp, by omega, HT, HR, HG⟩
       case measure => simp [intOf]; omega
      ·have e1 : (x1.toList == t1.toList) = false := by rw [ne_lists]; exact decide_eq_false hc
       have HF := mkA (HST.out hc)
       clear hc HST HGO
       go_wp2_with (first
        | ((with_reducible refine gate_dst (N := 36) rfl ?_); refine load_evm' (N := 36) rfl rfl rfl (cs := #[.string x0, .string x1, .int .i64 x2]) rfl HCS.out Try.underlying74 rfl (by kernel_rfl) ?_)
        | ((with_reducible refine gate_dst (N := 8) rfl ?_); refine box_event rfl (N := 8) rfl (cs := #[.string ⟨#[]⟩, .string ⟨#[]⟩, .int .i64 0]) (t := 74) ?hr ?_; (case hr => first | (go_simp; done) | (go_simp; rfl)); intro g8 hg8 w3 hbx hbl; have HX1 := mkA (zbS HX.out hbl); have G6 := mkA (show _ ≤ g8 by rw [hg8]; exact HX.out.size); have Y := mkA hbx; clear hbx hbl hg8 HX)
        | ((with_reducible refine gate_store (t := 74) (p := 8) rfl ?_); refine store_ev rfl rfl rfl (cells := #[.string x0, .string x1, .int .i64 x2]) rfl rfl Y.out (by kernel_rfl) rfl (by kernel_rfl) ?_; intro w4 hbx hgr; have HX := mkA (below_put HX1.out G6.out hgr HX1.out.size); have YY := mkA hbx; clear HX1 Y hbx hgr; have y1c : w4.cell? ⟨g8, 1, none⟩ = some (.string x1) := (blk_cell YY.out 1).trans rfl))
       have n_HT := mkA (HT.out.later HX.out)
       have n_HR := mkA (HR.out.later HX.out)
       have n_HG := mkA (gb_trans HG.out (gb_below HX.out))
       clear HT HR HG HX G6 y1c HCS YY
       have HT := n_HT
       have HR := n_HR
       have HG := n_HG
       clear n_HT n_HR n_HG
       rw [← HF.out] at HT
       go_roundw
       case rel => exact ⟨j + 1, by first | rfl | simp, by omega, HT, HR, HG⟩
       case measure => simp [intOf]; omega
     ·obtain rfl : j = T.length := by omega
      have k1 : decide ((T.length : Int) < (T.length : Int)) = false := decide_eq_false (by omega)
      rw [midT_end] at HT
      go_wp2_with fail
      go_ret
      exact ⟨by rw [HE.out]; rfl, by unfold clrT; rw [HE.out]; exact HT.out, HG.out⟩
  ·have HE := mkA (show okC s = none by rw [HD.out, if_neg (by simp), if_neg hz])
   have hz1 : ¬ s1.toList = [] := fun e => hz ((Go.Proofs.Ytohhlkabejangaa.PureNums.nil_size s1).1 e)
   clear HD HM HKY hz
   go_wp2_with fail
   go_ret
   exact ⟨by rw [HE.out]; rfl, by unfold clrT; rw [HE.out]; exact HT7.out, gb_below HB.out⟩
end Go.Proofs.Ytohhlkabejangaa.Of
