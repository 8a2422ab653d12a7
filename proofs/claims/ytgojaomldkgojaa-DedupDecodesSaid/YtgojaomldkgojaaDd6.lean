import Derived.Test.YtgojaomldkgojaaDd5
namespace Go.Proofs.Ytgojaomldkgojaa.Dd
set_option linter.unusedVariables false
set_option linter.unusedSimpArgs false
open Go.RowKit Go.Maps Go.Proofs.YtgojaomldkgojaaW.PrintWords Go.Proofs.YtgojaomldkgojaaW.PrintLast Go.Proofs.YtgojaomldkgojaaW.PrintMore Go.Proofs.Ytgojaomldkgojaa.PDd Go.Proofs.Ytgojaomldkgojaa.Wire Go.Proofs.Ytgojaomldkgojaa.Hand Go.Proofs.Ytgojaomldkgojaa.PureNums
theorem ints_loop (xs : List Int) (hl : xs.length ≤ 1000) : ∀ (d i k : Nat), i + d = xs.length → d < k → weighlockplain_Ints.l0 k xs xs (xs.length : Int) (i : Int) = some true
  | 0, i, k, hi, hk => by
    obtain ⟨k, rfl⟩ : ∃ k', k = k' + 1 := ⟨k - 1, by omega⟩
    rw [weighlockplain_Ints.l0, if_neg (by omega)]
  | d + 1, i, k, hi, hk => by
    obtain ⟨k, rfl⟩ : ∃ k', k = k' + 1 := ⟨k - 1, by omega⟩
    rw [weighlockplain_Ints.l0, if_pos (by omega), if_pos (by omega), if_pos (by omega)]
    have := ints_loop xs hl d (i + 1) k (by omega) (by omega)
    rw [show ((i + 1 : Nat) : Int) = wrap64 ((i : Int) + 1) from (w64 _ (by omega) (by omega)).symm] at this
    first
    | (rw [if_pos rfl]; exact this)
    | (rw [if_pos (by omega), if_pos rfl]; exact this)
    | simpa using this
theorem ints_calls (A B : Option Addr) (c d : Nat) (xs : List Int) (hl : xs.length ≤ 1000) (hc : xs.length ≤ c) (hd : xs.length ≤ d) (w : World) (hA : Kd.C (Kd.int .i64) w A xs.length xs) (hB : Kd.C (Kd.int .i64) w B xs.length xs) :
    Calls Try.prog 38 #[.slice A xs.length c, .slice B xs.length d] w fun e w' => e = .returned (.bool true) ∧ Below w.heap.size w w' := by
  have h : weighlockplain_Ints.f 1001 xs xs = some true := by
    unfold weighlockplain_Ints.f
    rw [if_pos rfl]
    exact ints_loop xs hl xs.length 0 1001 (by omega) (by omega)
  refine (weighlockplain_Ints.calls 1001 A c xs B d xs true w hA hc hB hd h).mono ?_
  rintro e w' ⟨rfl, hd⟩
  exact ⟨rfl, hd.below⟩
set_option maxRecDepth 100000 in
theorem infoInt : (Try.prog.info? 3).map (fun i => (i.zero, i.size, i.bytes)) = some (some (.int .i64 0), 1, 8) := by kernel_rfl
theorem ints_below {W W' : World} {base : Nat} {v : Value} {xs : List Int} (h : Kd.R (Kd.int .i64) 3 W base (fun _ => True) v xs) (hb : Below W.heap.size W W') : Kd.R (Kd.int .i64) 3 W' base (fun _ => True) v xs :=
  Kd.R_mono (Kd.R_step (Kd.R_bound h) (fun k hk hlt => hb.block k hlt)) (fun _ _ => trivial)
theorem blk_grown2 {W W' : World} {g : Nat} {ob : Obj} {b : Option Nat} (h : W.heap[g]? = some ob) (hg : W.grownBy W' b) (hne : b ≠ some g) : W'.heap[g]? = some ob :=
  (hg.block g (Array.getElem?_eq_some_iff.1 h).1 (fun e => hne e.symm)).trans h
theorem ints_new {W W0 W' : World} {base b : Nat} {v : Value} {xs : List Int} (h : Kd.R (Kd.int .i64) 3 W base (fun _ => True) v xs) (hb : Below W.heap.size W W0) (hg : W0.grownBy W' (some b)) (hB : W.heap.size ≤ b) : Kd.R (Kd.int .i64) 3 W' base (fun _ => True) v xs :=
  Kd.R_mono (Kd.R_step (Kd.R_bound h) (fun k hk hlt => (hg.block k (Nat.lt_of_lt_of_le hlt hb.size) (fun e => by have := Option.some.inj e; omega)).trans (hb.block k hlt))) (fun _ _ => trivial)
set_option maxHeartbeats 16000000 in
set_option maxRecDepth 100000 in
theorem same_calls (g b : Nat) (l : List La) (A : Option Addr) (c : Nat) (w : World) (hT : Tab w g b l) (hA : Kd.C k43 w A l.length l) (hc : l.length ≤ c) (hl : l.length ≤ 1000) :
    Calls Try.prog 26 #[.pointer (some ⟨g, 0, none⟩), .slice A l.length c] w fun e w' => e = .returned (.bool true) ∧ Below w.heap.size w w' := by
  have hund : ∀ b, some undef = some (Value.bool b) → False := fun b h => by simp [undef] at h
  have HT := Aside0.mk hT
  have HA := Aside0.mk hA
  clear hT hA
  have hlm : (l.map (·.f0)).length = l.length := List.length_map _
  go_enter Try.func26, Try.ntmps26
  go_wp2_with fail
  go_loopw [5, 10] (fun ov iv wr => ∃ (i : Nat), iv = .int .i64 i ∧ i ≤ l.length ∧ Aside0 (Kd.R (Kd.int .i64) 3 wr w.heap.size (fun _ => True) ov ((l.take i).map (·.f0))) ∧ Aside0 (Below w.heap.size w wr)) (fun _ iv _ => l.length - (intOf iv).toNat)
  case atStart => exact ⟨0, rfl, Nat.zero_le _, ⟨Kd.R_nil _ _ _ _ _⟩, ⟨Below.refl _ _⟩⟩
  case round =>
    obtain ⟨i, rfl, hil, R, HB⟩ := hrel
    by_cases hlt : i < l.length
    · obtain ⟨ad, hAd, hcs⟩ := at_la HA.out i hlt hlt
      have hcs' := Aside0.mk (cells_below hcs HB.out)
      have hok := HT.out.ok l[i] (List.getElem_mem hlt)
      have hox := of_decide_eq_true hok.1
      have hwr : wrap64 (l[i].f1 + l[i].f2) = l[i].f1 + l[i].f2 := by unfold wrap64; omega
      have hwk : IntKind.i64.wrap (l[i].f1 + l[i].f2) = l[i].f1 + l[i].f2 := IntWalk.i64_in _ (by omega)
      have hnx := Aside0.mk (fun (W : World) (h : Tab W g b l) => next_calls g b l l[i].f0 ⟨by omega, by omega⟩ W h)
      simp only [look_at l HT.out.ris i hlt] at hnx
      have HNX : Aside0 ((l.take (i + 1)).map (·.f0) = (l.take i).map (·.f0) ++ [l[i].f0]) := ⟨by rw [List.take_succ_eq_append_getElem hlt, List.map_append]; rfl⟩
      have hln : ((l.take i).map (·.f0)).length ≤ 1000 := by rw [List.length_map, List.length_take]; omega
      generalize (l.take i).map (·.f0) = acc at *
      subst hAd
      clear hcs hok hox
      obtain ⟨x, hx⟩ : ∃ x, l[i] = x := ⟨_, rfl⟩
      simp only [hx] at hcs' hnx HNX hwr hwk
      clear hx
      obtain ⟨x0, x1, x2, x3⟩ := x
      simp only [La.cs] at hcs' hnx HNX hwr hwk
      have HBz := Aside0.mk HB.out.size
      go_wp2_with (first
        | ((with_reducible refine gate_dst (N := 13) rfl ?_); refine load_evm' (N := 13) rfl rfl rfl (cs := #[.int .i64 x0, .int .i64 x1, .int .i64 x2, .int .i64 x3]) rfl hcs'.out Try.underlying43 rfl (by kernel_rfl) ?_)
        | ((with_reducible refine gate_dst (N := 7) rfl ?_); refine box_event rfl (N := 7) rfl (cs := #[.int .i64 0, .int .i64 0, .int .i64 0, .int .i64 0]) (t := 43) ?hr ?_; (case hr => first | (go_simp; done) | (go_simp; rfl)); intro g7 hg7 w1 hbx hbl; have n_HB := Aside0.mk (below_step HB.out hbl); have HX := Aside0.mk hbl; have G7 := Aside0.mk (show wr.heap.size ≤ g7 by rw [hg7]; exact Nat.le_refl _); have NE := Aside0.mk (show _ ≠ some g7 from fun e => by have := ((Kd.R_bound R.out).1 g7 e).2.2.1; rw [hg7] at this; exact absurd this (Nat.lt_irrefl _)); have Y := Aside0.mk hbx; clear HB hbx hbl hg7; have HB := n_HB; clear n_HB)
        | ((with_reducible refine gate_store (t := 43) (p := 7) rfl ?_); refine store_ev rfl rfl rfl (cells := #[.int .i64 x0, .int .i64 x1, .int .i64 x2, .int .i64 x3]) rfl rfl Y.out (by kernel_rfl) rfl (by kernel_rfl) ?_; intro w2 hbx hgr; have n_R := Aside0.mk (ints_new R.out HX.out hgr G7.out); have n_HB := Aside0.mk (below_put HB.out (Nat.le_trans HBz.out G7.out) hgr HB.out.size); have n_Y := Aside0.mk hbx; clear HB Y hbx hgr R HX; have HB := n_HB; have Y := n_Y; have R := n_R; clear n_HB n_Y n_R; have y0 : w2.cell? ⟨g7, 0, none⟩ = some (.int .i64 x0) := (blk_cell Y.out 0).trans rfl)
        | ((with_reducible refine gate_builtin (b := .append) (xs := #[.tmp 14, .tmp 17]) rfl ?_); at_builtin; refine Kd.R_append (Kd.int .i64) (w0 := w) w.heap.size rfl (.tmp 14) (.tmp 17) 53 3 (.int .i64 0) 8 rfl Try.underlying53 infoInt rfl (by decide) (by decide) _ acc x0 [.int .i64 x0] (fun _ => True) (fun _ => False) rfl ?aX rfl (fun _ hk => hk.elim) (fun _ _ => trivial) R.out HB.out HB.out.size ?aL ?_; (case aX => first | rfl | (go_simp; done) | (go_simp; rfl)); (case aL => omega); intro v1 w4 ho hb hgr hat; have n_Y := Aside0.mk (blk_grown2 Y.out hgr NE.out); clear R HB hgr hat Y y0; have R := Aside0.mk ho; have HB := Aside0.mk hb; have Y := n_Y; clear ho hb n_Y))
      have hbq : (x1 + x2 == x1 + x2) = true := beq_self_eq_true _
      have hbn : (x1 + x2 != x1 + x2) = false := bne_self_eq_false _
      refine start_ (n := 10) (S := fun w' => w'.cell? ⟨g7, 0, none⟩ = some (.int .i64 x0) ∧ w'.cell? ⟨g7, 1, none⟩ = some (.int .i64 x1) ∧ w'.cell? ⟨g7, 2, none⟩ = some (.int .i64 x2) ∧ w'.cell? ⟨g7, 3, none⟩ = some (.int .i64 x3)) (ds := []) #[false, false, false, false, false, false, false, false, false, false] (by kernel_rfl) rfl rfl ⟨(blk_cell Y.out 0).trans rfl, (blk_cell Y.out 1).trans rfl, (blk_cell Y.out 2).trans rfl, (blk_cell Y.out 3).trans rfl⟩ (fun _ => ?_)
      have n_R := Aside0.mk (ints_below R.out (below_drew1 (Below.refl _ _)))
      have n_HB := Aside0.mk (below_drew1 HB.out)
      have n_Y := Aside0.mk (show w4.drew.heap[g7]? = some (.cells #[.int .i64 x0, .int .i64 x1, .int .i64 x2, .int .i64 x3] 43 (0, 0)) from Y.out)
      clear R HB Y
      have R := n_R
      have HB := n_HB
      have Y := n_Y
      clear n_R n_HB n_Y
      generalize w4.drew = V0 at *
      refine pure_ (i := 0) (N := some 19) (v := ?_) (a' := ?_) #[true, false, false, false, false, false, false, false, false, false] rfl rfl (by kernel_rfl) (fun _ _ _ h => h) (Or.inl ⟨by rfl, ?_⟩) ?_ ?_
      rotate_left
      · intro w'
        go_simp
        with_reducible rfl
      rotate_left
      · simp only [Act.put, List.setIfInBounds_toArray, List.set_cons_zero, List.set_cons_succ]
        rfl
      refine pure_ (i := 1) (N := some 20) (v := ?_) (a' := ?_) #[true, true, false, false, false, false, false, false, false, false] rfl rfl (by kernel_rfl) (fun _ _ _ h => h) (Or.inl ⟨by rfl, ?_⟩) ?_ ?_
      rotate_left
      · intro w'
        go_simp
        with_reducible rfl
      rotate_left
      · simp only [Act.put, List.setIfInBounds_toArray, List.set_cons_zero, List.set_cons_succ]
        rfl
      refine take_ (i := 2) (N := some 21) (v := ?_) (a' := ?_) #[true, true, true, false, false, false, false, false, false, false] rfl rfl (by kernel_rfl) (fun _ _ _ h => h) (Or.inl ⟨by rfl, ?_⟩) ⟨(blk_cell Y.out 0).trans rfl, (blk_cell Y.out 1).trans rfl, (blk_cell Y.out 2).trans rfl, (blk_cell Y.out 3).trans rfl⟩ ?_ ?_
      rotate_left
      · intro w' hS
        obtain ⟨h0, h1, h2, h3⟩ := hS
        go_simp
        with_reducible rfl
      rotate_left
      · simp only [Act.put, List.setIfInBounds_toArray, List.set_cons_zero, List.set_cons_succ]
        rfl
      refine pure_ (i := 4) (N := some 23) (v := ?_) (a' := ?_) #[true, true, true, false, true, false, false, false, false, false] rfl rfl (by kernel_rfl) (fun _ _ _ h => h) (Or.inl ⟨by rfl, ?_⟩) ?_ ?_
      rotate_left
      · intro w'
        go_simp
        with_reducible rfl
      rotate_left
      · simp only [Act.put, List.setIfInBounds_toArray, List.set_cons_zero, List.set_cons_succ]
        rfl
      refine take_ (i := 5) (N := some 24) (v := ?_) (a' := ?_) #[true, true, true, false, true, true, false, false, false, false] rfl rfl (by kernel_rfl) (fun _ _ _ h => h) (Or.inl ⟨by rfl, ?_⟩) ⟨(blk_cell Y.out 0).trans rfl, (blk_cell Y.out 1).trans rfl, (blk_cell Y.out 2).trans rfl, (blk_cell Y.out 3).trans rfl⟩ ?_ ?_
      rotate_left
      · intro w' hS
        obtain ⟨h0, h1, h2, h3⟩ := hS
        go_simp
        with_reducible rfl
      rotate_left
      · simp only [Act.put, List.setIfInBounds_toArray, List.set_cons_zero, List.set_cons_succ]
        rfl
      refine pure_ (i := 6) (N := some 25) (v := ?_) (a' := ?_) #[true, true, true, false, true, true, true, false, false, false] rfl rfl (by kernel_rfl) (fun _ _ _ h => h) (Or.inl ⟨by rfl, ?_⟩) ?_ ?_
      rotate_left
      · intro w'
        go_simp
        with_reducible rfl
      rotate_left
      · simp only [Act.put, List.setIfInBounds_toArray, List.set_cons_zero, List.set_cons_succ]
        rfl
      refine take_ (i := 7) (N := some 26) (v := ?_) (a' := ?_) #[true, true, true, false, true, true, true, true, false, false] rfl rfl (by kernel_rfl) (fun _ _ _ h => h) (Or.inl ⟨by rfl, ?_⟩) ⟨(blk_cell Y.out 0).trans rfl, (blk_cell Y.out 1).trans rfl, (blk_cell Y.out 2).trans rfl, (blk_cell Y.out 3).trans rfl⟩ ?_ ?_
      rotate_left
      · intro w' hS
        obtain ⟨h0, h1, h2, h3⟩ := hS
        go_simp
        with_reducible rfl
      rotate_left
      · simp only [Act.put, List.setIfInBounds_toArray, List.set_cons_zero, List.set_cons_succ]
        rfl
      refine pure_ (i := 8) (N := some 27) (v := ?_) (a' := ?_) #[true, true, true, false, true, true, true, true, true, false] rfl rfl (by kernel_rfl) (fun _ _ _ h => h) (Or.inl ⟨by rfl, ?_⟩) ?_ ?_
      rotate_left
      · intro w'
        go_simp
        with_reducible rfl
      rotate_left
      · simp only [Act.put, List.setIfInBounds_toArray, List.set_cons_zero, List.set_cons_succ]
        rfl
      refine one_ (i := 3) (N := some 22) #[true, true, true, true, true, true, true, true, true, false] rfl rfl (by kernel_rfl) (by simp) (fun K hK => ?_)
      refine goes_ Try.func29 (by kernel_rfl) rfl #[.pointer (some ⟨g, 0, none⟩), .int .i64 x0] (by rfl) rfl rfl (by simp only [List.map_toArray, List.map_cons, List.map_nil] <;> rfl) ?_
      refine (hnx.out V0 (HT.out.later HB.out)).mono ?_
      rintro e V1 ⟨rfl, hb⟩
      have n_R := Aside0.mk (ints_below R.out hb)
      have n_HB := Aside0.mk (below_step HB.out hb)
      have n_Y := Aside0.mk (blk_below Y.out hb)
      clear R HB Y hb
      have R := n_R
      have HB := n_HB
      have Y := n_Y
      clear n_R n_HB n_Y
      refine ⟨_, rfl, hK.out _ _ ⟨(blk_cell Y.out 0).trans rfl, (blk_cell Y.out 1).trans rfl, (blk_cell Y.out 2).trans rfl, (blk_cell Y.out 3).trans rfl⟩ (fun _ => ?_)⟩
      clear hK K
      refine norm_ (a' := ?_) ?_ ?_
      rotate_left
      · simp only [Act.put, List.setIfInBounds_toArray, List.set_cons_zero, List.set_cons_succ]
        rfl
      refine pure_ (i := 9) (N := some 28) (v := ?_) (a' := ?_) #[true, true, true, true, true, true, true, true, true, true] rfl rfl (by kernel_rfl) (fun _ _ _ h => h) (Or.inl ⟨by rfl, ?_⟩) ?_ ?_
      rotate_left
      · intro w'
        go_simp
        with_reducible rfl
      rotate_left
      · simp only [Act.put, List.setIfInBounds_toArray, List.set_cons_zero, List.set_cons_succ]
        rfl
      refine done_ (by kernel_rfl) ?_
      go_wp2_with fail
      go_roundw
      case rel => exact ⟨i + 1, by go_num, by omega, ⟨by rw [HNX.out]; exact R.out⟩, HB⟩
      case measure => simp [intOf]; omega
    · obtain rfl : i = l.length := by omega
      have n_R := Aside0.mk (show Kd.R (Kd.int .i64) 3 wr w.heap.size (fun _ => True) _ (l.map (·.f0)) from by have h9 := R.out; rw [List.take_length] at h9; exact h9)
      clear R
      obtain ⟨A1, c1, hu1, hc1, hC1⟩ := Kd.R_reads n_R.out
      rw [hlm] at hu1
      subst hu1
      have HC1 := Aside0.mk hC1
      clear hC1 n_R
      obtain ⟨es, hes⟩ : ∃ es, encL l = es := ⟨_, rfl⟩
      go_wp2_with fail
      refine (producers_calls g b l wr (HT.out.later HB.out) hl).mono ?_
      rintro e w1 ⟨u2, rfl, hR, hb⟩
      obtain ⟨A2, c2, hu2, hc2, hC2⟩ := Kd.R_reads hR
      rw [hlm] at hu2
      subst hu2
      have HC2 := Aside0.mk hC2
      have n_HC1 := Aside0.mk (Kd.C_below HC1.out hb)
      have n_HB := Aside0.mk (below_step HB.out hb)
      clear HC1 HB hb hR hC2
      have HC1 := n_HC1
      have HB := n_HB
      clear n_HC1 n_HB
      go_wp2_with fail
      have hin := ints_calls A2 A1 c2 c1 (l.map (·.f0)) (by omega) hc2 hc1 w1 HC2.out HC1.out
      rw [hlm] at hin
      refine hin.mono ?_
      clear hin
      rintro e w3 ⟨rfl, hb⟩
      have n_HB := Aside0.mk (below_step HB.out hb)
      clear HB hb HC1 HC2
      have HB := n_HB
      clear n_HB
      go_wp2_with fail
      have hen := encode_calls g b l w3 (HT.out.later HB.out) hl
      rw [hes] at hen
      refine hen.mono ?_
      clear hen
      rintro e w4 ⟨rfl, hb⟩
      have n_HB := Aside0.mk (below_step HB.out hb)
      clear HB hb
      have HB := n_HB
      clear n_HB
      go_wp2_with fail
      have hen := rencode_calls A c l w4 (Kd.C_below HA.out HB.out) hl HT.out.ok
      rw [hes] at hen
      refine hen.mono ?_
      clear hen
      rintro e w5 ⟨rfl, hb⟩
      have n_HB := Aside0.mk (below_step HB.out hb)
      clear HB hb
      have HB := n_HB
      clear n_HB
      have hbq : (es.toList == es.toList) = true := beq_self_eq_true _
      go_wp2_with fail
      go_ret
      exact ⟨rfl, HB.out⟩
end Go.Proofs.Ytgojaomldkgojaa.Dd
