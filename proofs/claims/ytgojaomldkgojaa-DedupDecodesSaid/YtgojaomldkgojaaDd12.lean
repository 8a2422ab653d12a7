import Derived.Test.YtgojaomldkgojaaDd10
import Derived.Test.YtgojaomldkgojaaDd11
namespace Go.Proofs.Ytgojaomldkgojaa.Dd
set_option linter.unusedVariables false
set_option linter.unusedSimpArgs false
open Go.RowKit Go.Maps Go.Proofs.YtgojaomldkgojaaW.PrintWords Go.Proofs.YtgojaomldkgojaaW.PrintLast Go.Proofs.YtgojaomldkgojaaW.PrintMore Go.Proofs.Ytgojaomldkgojaa.PDd Go.Proofs.Ytgojaomldkgojaa.Wire Go.Proofs.Ytgojaomldkgojaa.Hand
set_option maxHeartbeats 32000000 in
set_option maxRecDepth 100000 in
theorem decs_calls (s more : ByteArray) (w : World) : Calls Try.prog 11 #[.string s, .string more] w fun e w' => e = .returned (.bool true) ∧ Below w.heap.size w w' := by
  have hund : ∀ b, some undef = some (Value.bool b) → False := fun b h => by simp [undef] at h
  by_cases hb1 : 600 < s.size
  · skip
    go_enter Try.func11, Try.ntmps11
    go_wp2_with fail
    refine (seven_calls w).mono ?_
    rintro e w1 ⟨rfl, hb⟩
    have HB := Aside0.mk hb
    clear hb
    go_wp2_with fail
    go_ret
    exact ⟨rfl, HB.out⟩
  by_cases hb2 : 300 < more.size
  · skip
    go_enter Try.func11, Try.ntmps11
    go_wp2_with fail
    refine (seven_calls w).mono ?_
    rintro e w1 ⟨rfl, hb⟩
    have HB := Aside0.mk hb
    clear hb
    go_wp2_with fail
    go_ret
    exact ⟨rfl, HB.out⟩
  have hsz : s.size ≤ 600 := by omega
  have hmz : more.size ≤ 300 := by omega
  have hdc := dec_calls s (by omega) w
  have hrd := Aside0.mk (fun W => rdec_calls s (by omega) W)
  cases hd : dec s with
  | none =>
    rw [hd] at hdc hrd
    have HDC := Aside0.mk hdc
    clear hdc hd
    go_enter Try.func11, Try.ntmps11
    go_wp2_with fail
    refine HDC.out.mono ?_
    rintro e w1 ⟨h1, hb⟩
    simp only at h1
    subst h1
    have HB := Aside0.mk hb
    clear hb HDC
    go_wp2_with fail
    refine (hrd.out w1).mono ?_
    rintro e w2 ⟨h1, hb⟩
    simp only at h1
    subst h1
    have n_HB := Aside0.mk (below_step HB.out hb)
    clear HB hb hrd
    have HB := n_HB
    clear n_HB
    go_wp2_with (first
      | ((with_reducible refine gate_dst (N := 8) rfl ?_); refine box_event rfl (N := 8) rfl (cs := #[.slice none 0 0, .int .i64 0, .bool false]) (t := 80) ?hr ?_; (case hr => first | (go_simp; done) | (go_simp; rfl)); intro g8 hg8 w3 hbx hbl; have n_B := Aside0.mk (below_step HB.out hbl); have G8 := Aside0.mk (show w.heap.size ≤ g8 by rw [hg8]; exact HB.out.size); have H8 := Aside0.mk (show w2.heap.size ≤ g8 by rw [hg8]; exact Nat.le_refl _); have HX := Aside0.mk hbl; have Y := Aside0.mk hbx; clear HB hbx hbl hg8; have HB := n_B; clear n_B)
      | ((with_reducible refine gate_store (t := 80) (p := 8) rfl ?_); refine store_ev rfl rfl rfl (cells := #[.slice none 0 0, .int .i64 0, .bool false]) rfl rfl Y.out (by kernel_rfl) rfl (by kernel_rfl) ?_; intro w4 hbx hgr; have n_B := Aside0.mk (below_put HB.out G8.out hgr HB.out.size); have n_X := Aside0.mk (below_put HX.out H8.out hgr HX.out.size); have n_Y := Aside0.mk hbx; clear HB Y HX hbx hgr; have HB := n_B; have Y := n_Y; have HX := n_X; clear n_B n_Y n_X; have y2 : w4.cell? ⟨g8, 2, none⟩ = some (.bool false) := (blk_cell Y.out 2).trans rfl))
    refine (seven_calls w4).mono ?_
    rintro e w5 ⟨rfl, hb⟩
    have n_B := Aside0.mk (below_step HB.out hb)
    clear HB hb y2 Y HX
    go_wp2_with fail
    go_ret
    exact ⟨rfl, n_B.out⟩
  | some x =>
    obtain ⟨l, a⟩ := x
    obtain ⟨ha0, ha1, hl16, henc⟩ := dec_back s l a hd
    obtain ⟨an, rfl⟩ := Int.eq_ofNat_of_zero_le ha0
    rw [Int.toNat_natCast] at henc
    have han : an ≤ s.size := by omega
    rw [hd] at hdc hrd
    have HDC := Aside0.mk hdc
    clear hdc hd
    go_enter Try.func11, Try.ntmps11
    go_wp2_with fail
    refine HDC.out.mono ?_
    rintro e w1 ⟨⟨g, b, h1, hT, hg, hbs⟩, hb⟩
    subst h1
    have HT := Aside0.mk hT
    have HB := Aside0.mk hb
    have hde := dec_enc l more hT.ris hT.ok hl16
    rw [henc] at hde
    have hes2 : (s.extract 0 an).size = an := by rw [ByteArray.size_extract]; omega
    rw [hes2] at hde
    clear hb HDC hT hg hbs
    go_wp2_with fail
    refine (hrd.out w1).mono ?_
    rintro e w2 ⟨⟨v, h1, hR⟩, hb⟩
    subst h1
    obtain ⟨A, c, hv, hc, hC⟩ := Kd.R_reads hR
    subst hv
    have HC := Aside0.mk hC
    have n_HT := Aside0.mk (HT.out.later hb)
    have n_HB := Aside0.mk (below_step HB.out hb)
    clear HT HB hb hrd hC hR
    have HT := n_HT
    have HB := n_HB
    clear n_HT n_HB
    obtain ⟨es, hes⟩ : ∃ es, s.extract 0 an = es := ⟨_, rfl⟩
    rw [hes] at henc hde hes2
    have hen := Aside0.mk (fun (W : World) (T : Tab W g b l) => encode_calls g b l W T (by omega))
    simp only [henc] at hen
    have hadd : (es ++ more).size ≤ 10000 := by rw [ByteArray.size_append]; omega
    have had2 : es.size + more.size ≤ 9223372036854775807 := by omega
    have had3 : ¬ 9223372036854775807 < es.size + more.size := by omega
    have hd2 := Aside0.mk (fun W => dec_calls (es ++ more) hadd W)
    rw [hde] at hd2
    have hl9 : l.length ≤ 1000 := by omega
    clear hde henc hadd hl16 ha0 ha1
    go_wp2_with (first
      | ((with_reducible refine gate_dst (N := 8) rfl ?_); refine box_event rfl (N := 8) rfl (cs := #[.slice none 0 0, .int .i64 0, .bool false]) (t := 80) ?hr ?_; (case hr => first | (go_simp; done) | (go_simp; rfl)); intro g8 hg8 w3 hbx hbl; have n_B := Aside0.mk (below_step HB.out hbl); have G8 := Aside0.mk (show w.heap.size ≤ g8 by rw [hg8]; exact HB.out.size); have H8 := Aside0.mk (show w2.heap.size ≤ g8 by rw [hg8]; exact Nat.le_refl _); have HX := Aside0.mk hbl; have Y := Aside0.mk hbx; clear HB hbx hbl hg8; have HB := n_B; clear n_B)
      | ((with_reducible refine gate_store (t := 80) (p := 8) rfl ?_); refine store_ev rfl rfl rfl (cells := #[.slice A l.length c, .int .i64 (an : Int), .bool true]) rfl rfl Y.out (by kernel_rfl) rfl (by kernel_rfl) ?_; intro w4 hbx hgr; have n_B := Aside0.mk (below_put HB.out G8.out hgr HB.out.size); have n_X := Aside0.mk (below_put HX.out H8.out hgr HX.out.size); have n_Y := Aside0.mk hbx; clear HB Y HX hbx hgr; have HB := n_B; have Y := n_Y; have HX := n_X; clear n_B n_Y n_X; have y2 : w4.cell? ⟨g8, 2, none⟩ = some (.bool true) := (blk_cell Y.out 2).trans rfl))
    have n_T := Aside0.mk (HT.out.later HX.out)
    have n_C := Aside0.mk (Kd.C_below HC.out HX.out)
    clear HT HC HX H8 y2
    have HT := n_T
    have HC := n_C
    clear n_T n_C
    refine (hen.out w4 HT.out).mono ?_
    rintro e w5 ⟨rfl, hb⟩
    have n_HT := Aside0.mk (HT.out.later hb)
    have n_HC := Aside0.mk (Kd.C_below HC.out hb)
    have n_HB := Aside0.mk (below_step HB.out hb)
    have n_Y := Aside0.mk (blk_below Y.out hb)
    clear HT HC HB Y hb
    have HT := n_HT
    have HC := n_HC
    have HB := n_HB
    have Y := n_Y
    clear n_HT n_HC n_HB n_Y
    go_wp2_with fail
    refine (hd2.out w5).mono ?_
    rintro e w6 ⟨⟨h, b2, h1, hT2, hh, hb2⟩, hb⟩
    subst h1
    have HT2 := Aside0.mk hT2
    have n_HT := Aside0.mk (HT.out.later hb)
    have n_HC := Aside0.mk (Kd.C_below HC.out hb)
    have n_HB := Aside0.mk (below_step HB.out hb)
    have n_Y := Aside0.mk (blk_below Y.out hb)
    clear HT HC HB Y hb hd2 hT2 hh hb2
    have HT := n_HT
    have HC := n_HC
    have HB := n_HB
    have Y := n_Y
    clear n_HT n_HC n_HB n_Y
    have hbe : (es.toList == es.toList) = true := beq_self_eq_true _
    have hba : ((an : Int) == (an : Int)) = true := beq_self_eq_true _
    go_wp2_with fail
    refine start_ (n := 41) (S := fun w' => w'.cell? ⟨g8, 0, none⟩ = some (.slice A l.length c) ∧ w'.cell? ⟨g8, 1, none⟩ = some (.int .i64 (an : Int))) (ds := []) #[false, false, false, false, false, false, false, false, false, false, false, false, false, false, false, false, false, false, false, false, false, false, false, false, false, false, false, false, false, false, false, false, false, false, false, false, false, false, false, false, false] (by kernel_rfl) rfl rfl ⟨(blk_cell Y.out 0).trans rfl, (blk_cell Y.out 1).trans rfl⟩ (fun _ => ?_)
    have n_HT := Aside0.mk (HT.out.later (below_drew1 (Below.refl _ _)))
    have n_HT2 := Aside0.mk (HT2.out.later (below_drew1 (Below.refl _ _)))
    have n_HC := Aside0.mk (Kd.C_below HC.out (below_drew1 (Below.refl _ _)))
    have n_HB := Aside0.mk (below_drew1 HB.out)
    have n_Y := Aside0.mk (show w6.drew.heap[g8]? = some (.cells #[.slice A l.length c, .int .i64 (an : Int), .bool true] 80 (0, 0)) from Y.out)
    clear HT HT2 HC HB Y
    have HT := n_HT
    have HT2 := n_HT2
    have HC := n_HC
    have HB := n_HB
    have Y := n_Y
    clear n_HT n_HT2 n_HC n_HB n_Y
    generalize w6.drew = V0 at *
    refine pure_ (i := 0) (N := some 54) (v := ?_) (a' := ?_) #[true, false, false, false, false, false, false, false, false, false, false, false, false, false, false, false, false, false, false, false, false, false, false, false, false, false, false, false, false, false, false, false, false, false, false, false, false, false, false, false, false] rfl rfl (by kernel_rfl) (fun _ _ _ h => h) (Or.inl ⟨by rfl, ?_⟩) ?_ ?_
    rotate_left
    · intro w'
      go_simp
      with_reducible rfl
    rotate_left
    · simp only [Act.put, List.setIfInBounds_toArray, List.set_cons_zero, List.set_cons_succ]
      rfl
    refine pure_ (i := 1) (N := some 55) (v := ?_) (a' := ?_) #[true, true, false, false, false, false, false, false, false, false, false, false, false, false, false, false, false, false, false, false, false, false, false, false, false, false, false, false, false, false, false, false, false, false, false, false, false, false, false, false, false] rfl rfl (by kernel_rfl) (fun _ _ _ h => h) (Or.inl ⟨by rfl, ?_⟩) ?_ ?_
    rotate_left
    · intro w'
      go_simp
      with_reducible rfl
    rotate_left
    · simp only [Act.put, List.setIfInBounds_toArray, List.set_cons_zero, List.set_cons_succ]
      rfl
    refine pure_ (i := 2) (N := some 56) (v := ?_) (a' := ?_) #[true, true, true, false, false, false, false, false, false, false, false, false, false, false, false, false, false, false, false, false, false, false, false, false, false, false, false, false, false, false, false, false, false, false, false, false, false, false, false, false, false] rfl rfl (by kernel_rfl) (fun _ _ _ h => h) (Or.inl ⟨by rfl, ?_⟩) ?_ ?_
    rotate_left
    · intro w'
      go_simp
      with_reducible rfl
    rotate_left
    · simp only [Act.put, List.setIfInBounds_toArray, List.set_cons_zero, List.set_cons_succ]
      rfl
    refine pure_ (i := 3) (N := some 57) (v := ?_) (a' := ?_) #[true, true, true, true, false, false, false, false, false, false, false, false, false, false, false, false, false, false, false, false, false, false, false, false, false, false, false, false, false, false, false, false, false, false, false, false, false, false, false, false, false] rfl rfl (by kernel_rfl) (fun _ _ _ h => h) (Or.inl ⟨by rfl, ?_⟩) ?_ ?_
    rotate_left
    · intro w'
      go_simp
      with_reducible rfl
    rotate_left
    · simp only [Act.put, List.setIfInBounds_toArray, List.set_cons_zero, List.set_cons_succ]
      rfl
    refine pure_ (i := 4) (N := some 58) (v := ?_) (a' := ?_) #[true, true, true, true, true, false, false, false, false, false, false, false, false, false, false, false, false, false, false, false, false, false, false, false, false, false, false, false, false, false, false, false, false, false, false, false, false, false, false, false, false] rfl rfl (by kernel_rfl) (fun _ _ _ h => h) (Or.inl ⟨by rfl, ?_⟩) ?_ ?_
    rotate_left
    · intro w'
      go_simp
      with_reducible rfl
    rotate_left
    · simp only [Act.put, List.setIfInBounds_toArray, List.set_cons_zero, List.set_cons_succ]
      rfl
    refine take_ (i := 5) (N := some 59) (v := ?_) (a' := ?_) #[true, true, true, true, true, true, false, false, false, false, false, false, false, false, false, false, false, false, false, false, false, false, false, false, false, false, false, false, false, false, false, false, false, false, false, false, false, false, false, false, false] rfl rfl (by kernel_rfl) (fun _ _ _ h => h) (Or.inl ⟨by rfl, ?_⟩) ⟨(blk_cell Y.out 0).trans rfl, (blk_cell Y.out 1).trans rfl⟩ ?_ ?_
    rotate_left
    · intro w' hS
      obtain ⟨h1, h2⟩ := hS
      go_simp
      with_reducible rfl
    rotate_left
    · simp only [Act.put, List.setIfInBounds_toArray, List.set_cons_zero, List.set_cons_succ]
      rfl
    refine pure_ (i := 6) (N := some 60) (v := ?_) (a' := ?_) #[true, true, true, true, true, true, true, false, false, false, false, false, false, false, false, false, false, false, false, false, false, false, false, false, false, false, false, false, false, false, false, false, false, false, false, false, false, false, false, false, false] rfl rfl (by kernel_rfl) (fun _ _ _ h => h) (Or.inl ⟨by rfl, ?_⟩) ?_ ?_
    rotate_left
    · intro w'
      go_simp
      with_reducible rfl
    rotate_left
    · simp only [Act.put, List.setIfInBounds_toArray, List.set_cons_zero, List.set_cons_succ]
      rfl
    refine pure_ (i := 7) (N := some 61) (v := ?_) (a' := ?_) #[true, true, true, true, true, true, true, true, false, false, false, false, false, false, false, false, false, false, false, false, false, false, false, false, false, false, false, false, false, false, false, false, false, false, false, false, false, false, false, false, false] rfl rfl (by kernel_rfl) (fun _ _ _ h => h) (Or.inl ⟨by rfl, ?_⟩) ?_ ?_
    rotate_left
    · intro w'
      go_simp
      with_reducible rfl
    rotate_left
    · simp only [Act.put, List.setIfInBounds_toArray, List.set_cons_zero, List.set_cons_succ]
      rfl
    refine pure_ (i := 8) (N := some 62) (v := ?_) (a' := ?_) #[true, true, true, true, true, true, true, true, true, false, false, false, false, false, false, false, false, false, false, false, false, false, false, false, false, false, false, false, false, false, false, false, false, false, false, false, false, false, false, false, false] rfl rfl (by kernel_rfl) (fun _ _ _ h => h) (Or.inl ⟨by rfl, ?_⟩) ?_ ?_
    rotate_left
    · intro w'
      go_simp
      with_reducible rfl
    rotate_left
    · simp only [Act.put, List.setIfInBounds_toArray, List.set_cons_zero, List.set_cons_succ]
      rfl
    refine pure_ (i := 9) (N := some 63) (v := ?_) (a' := ?_) #[true, true, true, true, true, true, true, true, true, true, false, false, false, false, false, false, false, false, false, false, false, false, false, false, false, false, false, false, false, false, false, false, false, false, false, false, false, false, false, false, false] rfl rfl (by kernel_rfl) (fun _ _ _ h => h) (Or.inl ⟨by rfl, ?_⟩) ?_ ?_
    rotate_left
    · intro w'
      go_simp
      with_reducible rfl
    rotate_left
    · simp only [Act.put, List.setIfInBounds_toArray, List.set_cons_zero, List.set_cons_succ]
      rfl
    refine pure_ (i := 10) (N := some 64) (v := ?_) (a' := ?_) #[true, true, true, true, true, true, true, true, true, true, true, false, false, false, false, false, false, false, false, false, false, false, false, false, false, false, false, false, false, false, false, false, false, false, false, false, false, false, false, false, false] rfl rfl (by kernel_rfl) (fun _ _ _ h => h) (Or.inl ⟨by rfl, ?_⟩) ?_ ?_
    rotate_left
    · intro w'
      go_simp
      with_reducible rfl
    rotate_left
    · simp only [Act.put, List.setIfInBounds_toArray, List.set_cons_zero, List.set_cons_succ]
      rfl
    refine take_ (i := 11) (N := some 65) (v := ?_) (a' := ?_) #[true, true, true, true, true, true, true, true, true, true, true, true, false, false, false, false, false, false, false, false, false, false, false, false, false, false, false, false, false, false, false, false, false, false, false, false, false, false, false, false, false] rfl rfl (by kernel_rfl) (fun _ _ _ h => h) (Or.inl ⟨by rfl, ?_⟩) ⟨(blk_cell Y.out 0).trans rfl, (blk_cell Y.out 1).trans rfl⟩ ?_ ?_
    rotate_left
    · intro w' hS
      obtain ⟨h1, h2⟩ := hS
      go_simp
      with_reducible rfl
    rotate_left
    · simp only [Act.put, List.setIfInBounds_toArray, List.set_cons_zero, List.set_cons_succ]
      rfl
    refine one_ (i := 12) (N := some 66) #[true, true, true, true, true, true, true, true, true, true, true, true, true, false, false, false, false, false, false, false, false, false, false, false, false, false, false, false, false, false, false, false, false, false, false, false, false, false, false, false, false] rfl rfl (by kernel_rfl) (by simp) (fun K hK => ?_)
    refine goes_ Try.func26 (by kernel_rfl) rfl #[.pointer (some ⟨g, 0, none⟩), .slice A l.length c] (by rfl) rfl rfl (by simp only [List.map_toArray, List.map_cons, List.map_nil] <;> rfl) ?_
    refine (same_calls g b l A c V0 HT.out HC.out hc hl9).mono ?_
    rintro e V1 ⟨rfl, hb⟩
    have n_HT := Aside0.mk (HT.out.later hb)
    have n_HT2 := Aside0.mk (HT2.out.later hb)
    have n_HC := Aside0.mk (Kd.C_below HC.out hb)
    have n_HB := Aside0.mk (below_step HB.out hb)
    have n_Y := Aside0.mk (blk_below Y.out hb)
    clear HT HT2 HC HB Y hb
    have HT := n_HT
    have HT2 := n_HT2
    have HC := n_HC
    have HB := n_HB
    have Y := n_Y
    clear n_HT n_HT2 n_HC n_HB n_Y
    refine ⟨_, rfl, hK.out _ _ ⟨(blk_cell Y.out 0).trans rfl, (blk_cell Y.out 1).trans rfl⟩ (fun _ => ?_)⟩
    clear hK K
    refine norm_ (a' := ?_) ?_ ?_
    rotate_left
    · simp only [Act.put, List.setIfInBounds_toArray, List.set_cons_zero, List.set_cons_succ]
      rfl
    refine pure_ (i := 13) (N := some 67) (v := ?_) (a' := ?_) #[true, true, true, true, true, true, true, true, true, true, true, true, true, true, false, false, false, false, false, false, false, false, false, false, false, false, false, false, false, false, false, false, false, false, false, false, false, false, false, false, false] rfl rfl (by kernel_rfl) (fun _ _ _ h => h) (Or.inl ⟨by rfl, ?_⟩) ?_ ?_
    rotate_left
    · intro w'
      go_simp
      with_reducible rfl
    rotate_left
    · simp only [Act.put, List.setIfInBounds_toArray, List.set_cons_zero, List.set_cons_succ]
      rfl
    refine pure_ (i := 14) (N := some 68) (v := ?_) (a' := ?_) #[true, true, true, true, true, true, true, true, true, true, true, true, true, true, true, false, false, false, false, false, false, false, false, false, false, false, false, false, false, false, false, false, false, false, false, false, false, false, false, false, false] rfl rfl (by kernel_rfl) (fun _ _ _ h => h) (Or.inl ⟨by rfl, ?_⟩) ?_ ?_
    rotate_left
    · intro w'
      go_simp
      with_reducible rfl
    rotate_left
    · simp only [Act.put, List.setIfInBounds_toArray, List.set_cons_zero, List.set_cons_succ]
      rfl
    refine pure_ (i := 15) (N := some 69) (v := ?_) (a' := ?_) #[true, true, true, true, true, true, true, true, true, true, true, true, true, true, true, true, false, false, false, false, false, false, false, false, false, false, false, false, false, false, false, false, false, false, false, false, false, false, false, false, false] rfl rfl (by kernel_rfl) (fun _ _ _ h => h) (Or.inl ⟨by rfl, ?_⟩) ?_ ?_
    rotate_left
    · intro w'
      go_simp
      with_reducible rfl
    rotate_left
    · simp only [Act.put, List.setIfInBounds_toArray, List.set_cons_zero, List.set_cons_succ]
      rfl
    refine pure_ (i := 16) (N := some 70) (v := ?_) (a' := ?_) #[true, true, true, true, true, true, true, true, true, true, true, true, true, true, true, true, true, false, false, false, false, false, false, false, false, false, false, false, false, false, false, false, false, false, false, false, false, false, false, false, false] rfl rfl (by kernel_rfl) (fun _ _ _ h => h) (Or.inl ⟨by rfl, ?_⟩) ?_ ?_
    rotate_left
    · intro w'
      go_simp
      with_reducible rfl
    rotate_left
    · simp only [Act.put, List.setIfInBounds_toArray, List.set_cons_zero, List.set_cons_succ]
      rfl
    refine pure_ (i := 17) (N := some 71) (v := ?_) (a' := ?_) #[true, true, true, true, true, true, true, true, true, true, true, true, true, true, true, true, true, true, false, false, false, false, false, false, false, false, false, false, false, false, false, false, false, false, false, false, false, false, false, false, false] rfl rfl (by kernel_rfl) (fun _ _ _ h => h) (Or.inl ⟨by rfl, ?_⟩) ?_ ?_
    rotate_left
    · intro w'
      go_simp
      with_reducible rfl
    rotate_left
    · simp only [Act.put, List.setIfInBounds_toArray, List.set_cons_zero, List.set_cons_succ]
      rfl
    refine pure_ (i := 18) (N := some 72) (v := ?_) (a' := ?_) #[true, true, true, true, true, true, true, true, true, true, true, true, true, true, true, true, true, true, true, false, false, false, false, false, false, false, false, false, false, false, false, false, false, false, false, false, false, false, false, false, false] rfl rfl (by kernel_rfl) (fun _ _ _ h => h) (Or.inl ⟨by rfl, ?_⟩) ?_ ?_
    rotate_left
    · intro w'
      go_simp
      with_reducible rfl
    rotate_left
    · simp only [Act.put, List.setIfInBounds_toArray, List.set_cons_zero, List.set_cons_succ]
      rfl
    refine pure_ (i := 19) (N := some 73) (v := ?_) (a' := ?_) #[true, true, true, true, true, true, true, true, true, true, true, true, true, true, true, true, true, true, true, true, false, false, false, false, false, false, false, false, false, false, false, false, false, false, false, false, false, false, false, false, false] rfl rfl (by kernel_rfl) (fun _ _ _ h => h) (Or.inl ⟨by rfl, ?_⟩) ?_ ?_
    rotate_left
    · intro w'
      go_simp
      with_reducible rfl
    rotate_left
    · simp only [Act.put, List.setIfInBounds_toArray, List.set_cons_zero, List.set_cons_succ]
      rfl
    refine pure_ (i := 20) (N := some 74) (v := ?_) (a' := ?_) #[true, true, true, true, true, true, true, true, true, true, true, true, true, true, true, true, true, true, true, true, true, false, false, false, false, false, false, false, false, false, false, false, false, false, false, false, false, false, false, false, false] rfl rfl (by kernel_rfl) (fun _ _ _ h => h) (Or.inl ⟨by rfl, ?_⟩) ?_ ?_
    rotate_left
    · intro w'
      go_simp
      with_reducible rfl
    rotate_left
    · simp only [Act.put, List.setIfInBounds_toArray, List.set_cons_zero, List.set_cons_succ]
      rfl
    refine pure_ (i := 21) (N := some 75) (v := ?_) (a' := ?_) #[true, true, true, true, true, true, true, true, true, true, true, true, true, true, true, true, true, true, true, true, true, true, false, false, false, false, false, false, false, false, false, false, false, false, false, false, false, false, false, false, false] rfl rfl (by kernel_rfl) (fun _ _ _ h => h) (Or.inl ⟨by rfl, ?_⟩) ?_ ?_
    rotate_left
    · intro w'
      go_simp
      with_reducible rfl
    rotate_left
    · simp only [Act.put, List.setIfInBounds_toArray, List.set_cons_zero, List.set_cons_succ]
      rfl
    refine pure_ (i := 22) (N := some 76) (v := ?_) (a' := ?_) #[true, true, true, true, true, true, true, true, true, true, true, true, true, true, true, true, true, true, true, true, true, true, true, false, false, false, false, false, false, false, false, false, false, false, false, false, false, false, false, false, false] rfl rfl (by kernel_rfl) (fun _ _ _ h => h) (Or.inl ⟨by rfl, ?_⟩) ?_ ?_
    rotate_left
    · intro w'
      go_simp
      with_reducible rfl
    rotate_left
    · simp only [Act.put, List.setIfInBounds_toArray, List.set_cons_zero, List.set_cons_succ]
      rfl
    refine pure_ (i := 23) (N := some 77) (v := ?_) (a' := ?_) #[true, true, true, true, true, true, true, true, true, true, true, true, true, true, true, true, true, true, true, true, true, true, true, true, false, false, false, false, false, false, false, false, false, false, false, false, false, false, false, false, false] rfl rfl (by kernel_rfl) (fun _ _ _ h => h) (Or.inl ⟨by rfl, ?_⟩) ?_ ?_
    rotate_left
    · intro w'
      go_simp
      with_reducible rfl
    rotate_left
    · simp only [Act.put, List.setIfInBounds_toArray, List.set_cons_zero, List.set_cons_succ]
      rfl
    refine pure_ (i := 24) (N := some 78) (v := ?_) (a' := ?_) #[true, true, true, true, true, true, true, true, true, true, true, true, true, true, true, true, true, true, true, true, true, true, true, true, true, false, false, false, false, false, false, false, false, false, false, false, false, false, false, false, false] rfl rfl (by kernel_rfl) (fun _ _ _ h => h) (Or.inl ⟨by rfl, ?_⟩) ?_ ?_
    rotate_left
    · intro w'
      go_simp
      with_reducible rfl
    rotate_left
    · simp only [Act.put, List.setIfInBounds_toArray, List.set_cons_zero, List.set_cons_succ]
      rfl
    refine pure_ (i := 25) (N := some 79) (v := ?_) (a' := ?_) #[true, true, true, true, true, true, true, true, true, true, true, true, true, true, true, true, true, true, true, true, true, true, true, true, true, true, false, false, false, false, false, false, false, false, false, false, false, false, false, false, false] rfl rfl (by kernel_rfl) (fun _ _ _ h => h) (Or.inl ⟨by rfl, ?_⟩) ?_ ?_
    rotate_left
    · intro w'
      go_simp
      with_reducible rfl
    rotate_left
    · simp only [Act.put, List.setIfInBounds_toArray, List.set_cons_zero, List.set_cons_succ]
      rfl
    refine take_ (i := 26) (N := some 80) (v := ?_) (a' := ?_) #[true, true, true, true, true, true, true, true, true, true, true, true, true, true, true, true, true, true, true, true, true, true, true, true, true, true, true, false, false, false, false, false, false, false, false, false, false, false, false, false, false] rfl rfl (by kernel_rfl) (fun _ _ _ h => h) (Or.inl ⟨by rfl, ?_⟩) ⟨(blk_cell Y.out 0).trans rfl, (blk_cell Y.out 1).trans rfl⟩ ?_ ?_
    rotate_left
    · intro w' hS
      obtain ⟨h1, h2⟩ := hS
      go_simp
      with_reducible rfl
    rotate_left
    · simp only [Act.put, List.setIfInBounds_toArray, List.set_cons_zero, List.set_cons_succ]
      rfl
    refine one_ (i := 27) (N := some 81) #[true, true, true, true, true, true, true, true, true, true, true, true, true, true, true, true, true, true, true, true, true, true, true, true, true, true, true, true, false, false, false, false, false, false, false, false, false, false, false, false, false] rfl rfl (by kernel_rfl) (by simp) (fun K hK => ?_)
    refine goes_ Try.func26 (by kernel_rfl) rfl #[.pointer (some ⟨h, 0, none⟩), .slice A l.length c] (by rfl) rfl rfl (by simp only [List.map_toArray, List.map_cons, List.map_nil] <;> rfl) ?_
    refine (same_calls h b2 l A c V1 HT2.out HC.out hc hl9).mono ?_
    rintro e V2 ⟨rfl, hb⟩
    have n_HT := Aside0.mk (HT.out.later hb)
    have n_HT2 := Aside0.mk (HT2.out.later hb)
    have n_HC := Aside0.mk (Kd.C_below HC.out hb)
    have n_HB := Aside0.mk (below_step HB.out hb)
    have n_Y := Aside0.mk (blk_below Y.out hb)
    clear HT HT2 HC HB Y hb
    have HT := n_HT
    have HT2 := n_HT2
    have HC := n_HC
    have HB := n_HB
    have Y := n_Y
    clear n_HT n_HT2 n_HC n_HB n_Y
    refine ⟨_, rfl, hK.out _ _ ⟨(blk_cell Y.out 0).trans rfl, (blk_cell Y.out 1).trans rfl⟩ (fun _ => ?_)⟩
    clear hK K
    refine norm_ (a' := ?_) ?_ ?_
    rotate_left
    · simp only [Act.put, List.setIfInBounds_toArray, List.set_cons_zero, List.set_cons_succ]
      rfl
    refine pure_ (i := 28) (N := some 82) (v := ?_) (a' := ?_) #[true, true, true, true, true, true, true, true, true, true, true, true, true, true, true, true, true, true, true, true, true, true, true, true, true, true, true, true, true, false, false, false, false, false, false, false, false, false, false, false, false] rfl rfl (by kernel_rfl) (fun _ _ _ h => h) (Or.inl ⟨by rfl, ?_⟩) ?_ ?_
    rotate_left
    · intro w'
      go_simp
      with_reducible rfl
    rotate_left
    · simp only [Act.put, List.setIfInBounds_toArray, List.set_cons_zero, List.set_cons_succ]
      rfl
    refine pure_ (i := 29) (N := some 83) (v := ?_) (a' := ?_) #[true, true, true, true, true, true, true, true, true, true, true, true, true, true, true, true, true, true, true, true, true, true, true, true, true, true, true, true, true, true, false, false, false, false, false, false, false, false, false, false, false] rfl rfl (by kernel_rfl) (fun _ _ _ h => h) (Or.inl ⟨by rfl, ?_⟩) ?_ ?_
    rotate_left
    · intro w'
      go_simp
      with_reducible rfl
    rotate_left
    · simp only [Act.put, List.setIfInBounds_toArray, List.set_cons_zero, List.set_cons_succ]
      rfl
    refine pure_ (i := 30) (N := some 84) (v := ?_) (a' := ?_) #[true, true, true, true, true, true, true, true, true, true, true, true, true, true, true, true, true, true, true, true, true, true, true, true, true, true, true, true, true, true, true, false, false, false, false, false, false, false, false, false, false] rfl rfl (by kernel_rfl) (fun _ _ _ h => h) (Or.inl ⟨by rfl, ?_⟩) ?_ ?_
    rotate_left
    · intro w'
      go_simp
      with_reducible rfl
    rotate_left
    · simp only [Act.put, List.setIfInBounds_toArray, List.set_cons_zero, List.set_cons_succ]
      rfl
    refine pure_ (i := 32) (N := some 86) (v := ?_) (a' := ?_) #[true, true, true, true, true, true, true, true, true, true, true, true, true, true, true, true, true, true, true, true, true, true, true, true, true, true, true, true, true, true, true, false, true, false, false, false, false, false, false, false, false] rfl rfl (by kernel_rfl) (fun _ _ _ h => h) (Or.inl ⟨by rfl, ?_⟩) ?_ ?_
    rotate_left
    · intro w'
      go_simp
      with_reducible rfl
    rotate_left
    · simp only [Act.put, List.setIfInBounds_toArray, List.set_cons_zero, List.set_cons_succ]
      rfl
    refine pure_ (i := 33) (N := some 87) (v := ?_) (a' := ?_) #[true, true, true, true, true, true, true, true, true, true, true, true, true, true, true, true, true, true, true, true, true, true, true, true, true, true, true, true, true, true, true, false, true, true, false, false, false, false, false, false, false] rfl rfl (by kernel_rfl) (fun _ _ _ h => h) (Or.inl ⟨by rfl, ?_⟩) ?_ ?_
    rotate_left
    · intro w'
      go_simp
      with_reducible rfl
    rotate_left
    · simp only [Act.put, List.setIfInBounds_toArray, List.set_cons_zero, List.set_cons_succ]
      rfl
    refine pure_ (i := 34) (N := some 88) (v := ?_) (a' := ?_) #[true, true, true, true, true, true, true, true, true, true, true, true, true, true, true, true, true, true, true, true, true, true, true, true, true, true, true, true, true, true, true, false, true, true, true, false, false, false, false, false, false] rfl rfl (by kernel_rfl) (fun _ _ _ h => h) (Or.inl ⟨by rfl, ?_⟩) ?_ ?_
    rotate_left
    · intro w'
      go_simp
      with_reducible rfl
    rotate_left
    · simp only [Act.put, List.setIfInBounds_toArray, List.set_cons_zero, List.set_cons_succ]
      rfl
    refine one_ (i := 31) (N := some 85) #[true, true, true, true, true, true, true, true, true, true, true, true, true, true, true, true, true, true, true, true, true, true, true, true, true, true, true, true, true, true, true, true, true, true, true, false, false, false, false, false, false] rfl rfl (by kernel_rfl) (by simp) (fun K hK => ?_)
    refine goes_ Try.func30 (by kernel_rfl) rfl #[.pointer (some ⟨g, 0, none⟩)] (by rfl) rfl rfl (by simp only [List.map_toArray, List.map_cons, List.map_nil] <;> rfl) ?_
    refine (hen.out V2 HT.out).mono ?_
    rintro e V3 ⟨rfl, hb⟩
    have n_HT := Aside0.mk (HT.out.later hb)
    have n_HT2 := Aside0.mk (HT2.out.later hb)
    have n_HC := Aside0.mk (Kd.C_below HC.out hb)
    have n_HB := Aside0.mk (below_step HB.out hb)
    have n_Y := Aside0.mk (blk_below Y.out hb)
    clear HT HT2 HC HB Y hb
    have HT := n_HT
    have HT2 := n_HT2
    have HC := n_HC
    have HB := n_HB
    have Y := n_Y
    clear n_HT n_HT2 n_HC n_HB n_Y
    refine ⟨_, rfl, hK.out _ _ ⟨(blk_cell Y.out 0).trans rfl, (blk_cell Y.out 1).trans rfl⟩ (fun _ => ?_)⟩
    clear hK K
    refine norm_ (a' := ?_) ?_ ?_
    rotate_left
    · simp only [Act.put, List.setIfInBounds_toArray, List.set_cons_zero, List.set_cons_succ]
      rfl
    refine pure_ (i := 35) (N := some 89) (v := ?_) (a' := ?_) #[true, true, true, true, true, true, true, true, true, true, true, true, true, true, true, true, true, true, true, true, true, true, true, true, true, true, true, true, true, true, true, true, true, true, true, true, false, false, false, false, false] rfl rfl (by kernel_rfl) (fun _ _ _ h => h) (Or.inl ⟨by rfl, ?_⟩) ?_ ?_
    rotate_left
    · intro w'
      go_simp
      with_reducible rfl
    rotate_left
    · simp only [Act.put, List.setIfInBounds_toArray, List.set_cons_zero, List.set_cons_succ]
      rfl
    refine pure_ (i := 36) (N := some 90) (v := ?_) (a' := ?_) #[true, true, true, true, true, true, true, true, true, true, true, true, true, true, true, true, true, true, true, true, true, true, true, true, true, true, true, true, true, true, true, true, true, true, true, true, true, false, false, false, false] rfl rfl (by kernel_rfl) (fun _ _ _ h => h) (Or.inl ⟨by rfl, ?_⟩) ?_ ?_
    rotate_left
    · intro w'
      go_simp
      with_reducible rfl
    rotate_left
    · simp only [Act.put, List.setIfInBounds_toArray, List.set_cons_zero, List.set_cons_succ]
      rfl
    refine pure_ (i := 37) (N := some 91) (v := ?_) (a' := ?_) #[true, true, true, true, true, true, true, true, true, true, true, true, true, true, true, true, true, true, true, true, true, true, true, true, true, true, true, true, true, true, true, true, true, true, true, true, true, true, false, false, false] rfl rfl (by kernel_rfl) (fun _ _ _ h => h) (Or.inl ⟨by rfl, ?_⟩) ?_ ?_
    rotate_left
    · intro w'
      go_simp
      with_reducible rfl
    rotate_left
    · simp only [Act.put, List.setIfInBounds_toArray, List.set_cons_zero, List.set_cons_succ]
      rfl
    refine one_ (i := 38) (N := some 92) #[true, true, true, true, true, true, true, true, true, true, true, true, true, true, true, true, true, true, true, true, true, true, true, true, true, true, true, true, true, true, true, true, true, true, true, true, true, true, true, false, false] rfl rfl (by kernel_rfl) (by simp) (fun K hK => ?_)
    refine goes_ Try.func20 (by kernel_rfl) rfl #[] (by rfl) rfl rfl (by simp only [List.map_toArray, List.map_cons, List.map_nil] <;> rfl) ?_
    refine (seven_calls V3).mono ?_
    rintro e V4 ⟨rfl, hb⟩
    have n_HT := Aside0.mk (HT.out.later hb)
    have n_HT2 := Aside0.mk (HT2.out.later hb)
    have n_HC := Aside0.mk (Kd.C_below HC.out hb)
    have n_HB := Aside0.mk (below_step HB.out hb)
    have n_Y := Aside0.mk (blk_below Y.out hb)
    clear HT HT2 HC HB Y hb
    have HT := n_HT
    have HT2 := n_HT2
    have HC := n_HC
    have HB := n_HB
    have Y := n_Y
    clear n_HT n_HT2 n_HC n_HB n_Y
    refine ⟨_, rfl, hK.out _ _ ⟨(blk_cell Y.out 0).trans rfl, (blk_cell Y.out 1).trans rfl⟩ (fun _ => ?_)⟩
    clear hK K
    refine norm_ (a' := ?_) ?_ ?_
    rotate_left
    · simp only [Act.put, List.setIfInBounds_toArray, List.set_cons_zero, List.set_cons_succ]
      rfl
    refine pure_ (i := 39) (N := some 93) (v := ?_) (a' := ?_) #[true, true, true, true, true, true, true, true, true, true, true, true, true, true, true, true, true, true, true, true, true, true, true, true, true, true, true, true, true, true, true, true, true, true, true, true, true, true, true, true, false] rfl rfl (by kernel_rfl) (fun _ _ _ h => h) (Or.inl ⟨by rfl, ?_⟩) ?_ ?_
    rotate_left
    · intro w'
      go_simp
      with_reducible rfl
    rotate_left
    · simp only [Act.put, List.setIfInBounds_toArray, List.set_cons_zero, List.set_cons_succ]
      rfl
    refine pure_ (i := 40) (N := some 4) (v := ?_) (a' := ?_) #[true, true, true, true, true, true, true, true, true, true, true, true, true, true, true, true, true, true, true, true, true, true, true, true, true, true, true, true, true, true, true, true, true, true, true, true, true, true, true, true, true] rfl rfl (by kernel_rfl) (fun _ _ _ h => h) (Or.inl ⟨by rfl, ?_⟩) ?_ ?_
    rotate_left
    · intro w'
      go_simp
      with_reducible rfl
    rotate_left
    · simp only [Act.put, List.setIfInBounds_toArray, List.set_cons_zero, List.set_cons_succ]
      rfl
    refine done_ (by kernel_rfl) ?_
    go_wp2_with fail
    go_ret
    exact ⟨rfl, HB.out⟩
end Go.Proofs.Ytgojaomldkgojaa.Dd
