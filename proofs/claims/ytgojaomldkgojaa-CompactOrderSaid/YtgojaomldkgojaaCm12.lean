import Derived.Test.YtgojaomldkgojaaCm11
namespace Go.Proofs.Ytgojaomldkgojaa.Cm
set_option linter.unusedVariables false
set_option linter.unusedSimpArgs false
open Go.RowKit Go.Maps Go.Proofs.YtgojaomldkgojaaW.PrintWords Go.Proofs.YtgojaomldkgojaaW.PrintLast Go.Proofs.YtgojaomldkgojaaW.PrintMore Go.Proofs.Ytgojaomldkgojaa.PCm Go.Proofs.Ytgojaomldkgojaa.Wire
def r0 : Rc := ⟨0, 0, ⟨#[97]⟩, ⟨#[49]⟩, false, 0, 0, 0⟩
def r1 : Rc := ⟨1, 0, ⟨#[98]⟩, ⟨#[50]⟩, false, 0, 0, 0⟩
def r2 : Rc := ⟨2, 0, ⟨#[97]⟩, ⟨#[51]⟩, false, 0, 0, 0⟩
def r3 : Rc := ⟨3, 5, ⟨#[98]⟩, ⟨#[]⟩, true, 0, 0, 0⟩
abbrev l4 : List Rc := [r0, r1, r2, r3]
theorem kL_data (r : Rc) : kL r = r.f2.data.toList := (toList_data _).symm
theorem four_k5 : keepF 5 l4 = [r2, r3] := by simp [keepF, keepL, fresh, kL_data, r0, r1, r2, r3, oldB]
theorem four_k6 : keepF 6 l4 = [r2] := by simp [keepF, keepL, fresh, kL_data, r0, r1, r2, r3, oldB]
theorem four_v : viewR l4 = [r2] := by simp [viewR, viewL, putL, liveL, fresh, kL_data, r0, r1, r2, r3]
theorem four_z : ∀ r ∈ l4, r.f2.size ≤ 1000 := by
  intro r h
  simp only [l4, List.mem_cons, List.not_mem_nil, or_false] at h
  rcases h with rfl | rfl | rfl | rfl <;> decide
theorem four_C {W : World} {g : Nat} (h : W.heap[g]? = some (.cells #[.int .i64 0, .int .i64 0, .string ⟨#[97]⟩, .string ⟨#[49]⟩, .bool false, .int .i64 0, .int .i64 0, .int .i64 0, .int .i64 1, .int .i64 0, .string ⟨#[98]⟩, .string ⟨#[50]⟩, .bool false, .int .i64 0, .int .i64 0, .int .i64 0, .int .i64 2, .int .i64 0, .string ⟨#[97]⟩, .string ⟨#[51]⟩, .bool false, .int .i64 0, .int .i64 0, .int .i64 0, .int .i64 3, .int .i64 5, .string ⟨#[98]⟩, .string ⟨#[]⟩, .bool true, .int .i64 0, .int .i64 0, .int .i64 0] 32 (0, 0))) : Kd.C k32 W (some ⟨g, 0, none⟩) 4 l4 := by
  refine ⟨rfl, by decide, fun _ => ⟨⟨g, 0, none⟩, rfl, fun j p hj => ?_⟩⟩
  have hjl : j < 4 := (List.getElem?_eq_some_iff.1 hj).1
  rcases j with _ | _ | _ | _ | j
  · obtain rfl := Option.some.inj hj
    refine ⟨_, rfl, k32_mk _ _, fun i u hu => ?_⟩
    have hi : i < 8 := (List.getElem?_eq_some_iff.1 hu).1
    rcases i with _ | _ | _ | _ | _ | _ | _ | _ | i
    · exact (blk_cell h 0).trans hu
    · exact (blk_cell h 1).trans hu
    · exact (blk_cell h 2).trans hu
    · exact (blk_cell h 3).trans hu
    · exact (blk_cell h 4).trans hu
    · exact (blk_cell h 5).trans hu
    · exact (blk_cell h 6).trans hu
    · exact (blk_cell h 7).trans hu
    · omega
  · obtain rfl := Option.some.inj hj
    refine ⟨_, rfl, k32_mk _ _, fun i u hu => ?_⟩
    have hi : i < 8 := (List.getElem?_eq_some_iff.1 hu).1
    rcases i with _ | _ | _ | _ | _ | _ | _ | _ | i
    · exact (blk_cell h 8).trans hu
    · exact (blk_cell h 9).trans hu
    · exact (blk_cell h 10).trans hu
    · exact (blk_cell h 11).trans hu
    · exact (blk_cell h 12).trans hu
    · exact (blk_cell h 13).trans hu
    · exact (blk_cell h 14).trans hu
    · exact (blk_cell h 15).trans hu
    · omega
  · obtain rfl := Option.some.inj hj
    refine ⟨_, rfl, k32_mk _ _, fun i u hu => ?_⟩
    have hi : i < 8 := (List.getElem?_eq_some_iff.1 hu).1
    rcases i with _ | _ | _ | _ | _ | _ | _ | _ | i
    · exact (blk_cell h 16).trans hu
    · exact (blk_cell h 17).trans hu
    · exact (blk_cell h 18).trans hu
    · exact (blk_cell h 19).trans hu
    · exact (blk_cell h 20).trans hu
    · exact (blk_cell h 21).trans hu
    · exact (blk_cell h 22).trans hu
    · exact (blk_cell h 23).trans hu
    · omega
  · obtain rfl := Option.some.inj hj
    refine ⟨_, rfl, k32_mk _ _, fun i u hu => ?_⟩
    have hi : i < 8 := (List.getElem?_eq_some_iff.1 hu).1
    rcases i with _ | _ | _ | _ | _ | _ | _ | _ | i
    · exact (blk_cell h 24).trans hu
    · exact (blk_cell h 25).trans hu
    · exact (blk_cell h 26).trans hu
    · exact (blk_cell h 27).trans hu
    · exact (blk_cell h 28).trans hu
    · exact (blk_cell h 29).trans hu
    · exact (blk_cell h 30).trans hu
    · exact (blk_cell h 31).trans hu
    · omega
  · omega
theorem four_D {W : World} {g : Nat} (h : Kd.C k32 W (some ⟨g, 0, none⟩) 4 l4) : Kd.C k32 W (some ⟨g, 16, none⟩) 2 [r2, r3] := by
  have h1 := Kd.C_drop (m := 2) (c := 4) h (by decide) (by decide)
  exact h1
theorem four_E {W : World} {g : Nat} (h : Kd.C k32 W (some ⟨g, 0, none⟩) 4 l4) : Kd.C k32 W (some ⟨g, 16, none⟩) 1 [r2] := by
  have h1 := Kd.C_take (m := 1) (four_D h) (by decide)
  exact h1
set_option maxHeartbeats 16000000 in
set_option maxRecDepth 100000 in
theorem four_calls (w : World) : Calls Try.prog 13 #[] w fun e w' => e = .returned (.bool true) ∧ Below w.heap.size w w' := by
  have hund : ∀ b, some undef = some (Value.bool b) → False := fun b h => by simp [undef] at h
  obtain ⟨i06, hi06, _, hsz6, _⟩ := info_parts info32
  have hcut1 : ∀ W : World, (Instr.slice 22 (.slice (some ⟨w.heap.size, 0, none⟩) 4 4) (some (.int .i64 2)) none none).run Try.prog W = .ok (.slice (some ⟨w.heap.size, 16, none⟩) 2 2) W :=
    cut_from (P := Try.prog) 22 32 .i64 Try.underlying22 hi06 8 hsz6 (some ⟨w.heap.size, 0, none⟩) 4 4 2 (by decide) (by decide)
  have hcut2 : ∀ W : World, (Instr.slice 22 (.slice (some ⟨w.heap.size, 0, none⟩) 4 4) (some (.int .i64 2)) (some (.int .i64 3)) none).run Try.prog W = .ok (.slice (some ⟨w.heap.size, 16, none⟩) 1 2) W :=
    cut_mid (P := Try.prog) 22 32 .i64 .i64 Try.underlying22 hi06 8 hsz6 (some ⟨w.heap.size, 0, none⟩) 4 4 2 3 (by decide) (by decide) (by decide) (by decide)
  clear hi06 hsz6
  go_enter Try.func13, Try.ntmps13
  go_wp2_with fail
  obtain ⟨w1, hw1⟩ : ∃ W, w.alloc (.cells #[.int .i64 0, .int .i64 0, .string ⟨#[97]⟩, .string ⟨#[49]⟩, .bool false, .int .i64 0, .int .i64 0, .int .i64 0, .int .i64 1, .int .i64 0, .string ⟨#[98]⟩, .string ⟨#[50]⟩, .bool false, .int .i64 0, .int .i64 0, .int .i64 0, .int .i64 2, .int .i64 0, .string ⟨#[97]⟩, .string ⟨#[51]⟩, .bool false, .int .i64 0, .int .i64 0, .int .i64 0, .int .i64 3, .int .i64 5, .string ⟨#[98]⟩, .string ⟨#[]⟩, .bool true, .int .i64 0, .int .i64 0, .int .i64 0] 32) = W := ⟨_, rfl⟩
  have HC : Aside0 (Kd.C k32 w1 (some ⟨w.heap.size, 0, none⟩) 4 l4) := ⟨four_C (by rw [← hw1]; exact blk_new w _)⟩
  have HB : Aside0 (Below w.heap.size w w1) := ⟨by rw [← hw1]; exact below_alloc (Below.refl _ _) _⟩
  rw [hw1]
  clear hw1
  refine start_ (n := 25) (S := fun w' => True) (ds := []) #[false, false, false, false, false, false, false, false, false, false, false, false, false, false, false, false, false, false, false, false, false, false, false, false, false] (by kernel_rfl) rfl rfl trivial (fun _ => ?_)
  have n_HC := Aside0.mk (show Kd.C k32 w1.drew (some ⟨w.heap.size, 0, none⟩) 4 l4 from Kd.C_below HC.out (below_drew1 (Below.refl _ _)))
  have n_HB := Aside0.mk (below_drew1 HB.out)
  clear HC HB
  have HC := n_HC
  have HB := n_HB
  clear n_HC n_HB
  generalize w1.drew = W1 at *
  refine pure_ (i := 0) (N := some 7) (v := ?_) (a' := ?_) #[true, false, false, false, false, false, false, false, false, false, false, false, false, false, false, false, false, false, false, false, false, false, false, false, false] rfl rfl (by kernel_rfl) (fun _ _ _ h => h) (Or.inl ⟨by rfl, ?_⟩) ?_ ?_
  rotate_left
  · intro w'
    go_simp
    with_reducible rfl
  rotate_left
  · simp only [Act.put, List.setIfInBounds_toArray, List.set_cons_zero, List.set_cons_succ]
    rfl
  refine pure_ (i := 2) (N := some 9) (v := ?_) (a' := ?_) #[true, false, true, false, false, false, false, false, false, false, false, false, false, false, false, false, false, false, false, false, false, false, false, false, false] rfl rfl (by kernel_rfl) (fun _ _ _ h => h) (Or.inl ⟨by rfl, ?_⟩) ?_ ?_
  rotate_left
  · intro w'
    go_simp
    with_reducible rfl
  rotate_left
  · simp only [Act.put, List.setIfInBounds_toArray, List.set_cons_zero, List.set_cons_succ]
    rfl
  refine pure_ (i := 3) (N := some 10) (v := ?_) (a' := ?_) #[true, false, true, true, false, false, false, false, false, false, false, false, false, false, false, false, false, false, false, false, false, false, false, false, false] rfl rfl (by kernel_rfl) (fun _ _ _ h => h) (Or.inl ⟨by rfl, ?_⟩) ?_ ?_
  rotate_left
  · intro w'
    go_simp
    with_reducible rfl
  rotate_left
  · simp only [Act.put, List.setIfInBounds_toArray, List.set_cons_zero, List.set_cons_succ]
    rfl
  refine one_ (i := 1) (N := some 8) #[true, true, true, true, false, false, false, false, false, false, false, false, false, false, false, false, false, false, false, false, false, false, false, false, false] rfl rfl (by kernel_rfl) (by simp) (fun K hK => ?_)
  refine goes_ Try.func14 (by kernel_rfl) rfl #[.slice (some ⟨w.heap.size, 0, none⟩) 4 4, .int .i64 5] (by rfl) rfl rfl (by simp only [List.map_toArray, List.map_cons, List.map_nil] <;> rfl) ?_
  refine (keep_calls (some ⟨w.heap.size, 0, none⟩) 4 l4 5 W1 HC.out (by decide) four_z).mono ?_
  rintro e wa ⟨ua1, rfl, hR, hb⟩
  rw [four_k5] at hR
  obtain ⟨A1, c1, hu1, hc1, hC1⟩ := Kd.R_reads hR
  subst hu1
  have n_HC := Aside0.mk (Kd.C_below HC.out hb)
  have n_HB := Aside0.mk (below_step HB.out hb)
  clear HC HB hR hb
  have HC := n_HC
  have HB := n_HB
  clear n_HC n_HB
  have HC1 := Aside0.mk hC1
  clear hC1
  refine ⟨_, rfl, hK.out _ _ trivial (fun _ => ?_)⟩
  clear hK K
  refine norm_ (a' := ?_) ?_ ?_
  rotate_left
  · simp only [Act.put, List.setIfInBounds_toArray, List.set_cons_zero, List.set_cons_succ]
    rfl
  refine one_ (i := 4) (N := some 11) #[true, true, true, true, true, false, false, false, false, false, false, false, false, false, false, false, false, false, false, false, false, false, false, false, false] rfl rfl (by kernel_rfl) (by simp) (fun K hK => ?_)
  refine goes_ Try.func15 (by kernel_rfl) rfl #[.slice A1 2 c1, .slice (some ⟨w.heap.size, 16, none⟩) 2 2] (by rfl) rfl rfl (by simp only [List.map_toArray, List.map_cons, List.map_nil] <;> rfl) ?_
  refine (same_calls A1 (some ⟨w.heap.size, 16, none⟩) c1 2 [r2, r3] wa HC1.out (four_D HC.out)).mono ?_
  rintro e wb ⟨rfl, hb⟩
  have n_HC := Aside0.mk (Kd.C_below HC.out hb)
  have n_HB := Aside0.mk (below_step HB.out hb)
  clear HC HB hb HC1
  have HC := n_HC
  have HB := n_HB
  clear n_HC n_HB
  refine ⟨_, rfl, hK.out _ _ trivial (fun _ => ?_)⟩
  clear hK K
  refine norm_ (a' := ?_) ?_ ?_
  rotate_left
  · simp only [Act.put, List.setIfInBounds_toArray, List.set_cons_zero, List.set_cons_succ]
    rfl
  refine pure_ (i := 5) (N := some 12) (v := ?_) (a' := ?_) #[true, true, true, true, true, true, false, false, false, false, false, false, false, false, false, false, false, false, false, false, false, false, false, false, false] rfl rfl (by kernel_rfl) (fun _ _ _ h => h) (Or.inl ⟨by rfl, ?_⟩) ?_ ?_
  rotate_left
  · intro w'
    go_simp
    with_reducible rfl
  rotate_left
  · simp only [Act.put, List.setIfInBounds_toArray, List.set_cons_zero, List.set_cons_succ]
    rfl
  refine pure_ (i := 6) (N := some 13) (v := ?_) (a' := ?_) #[true, true, true, true, true, true, true, false, false, false, false, false, false, false, false, false, false, false, false, false, false, false, false, false, false] rfl rfl (by kernel_rfl) (fun _ _ _ h => h) (Or.inl ⟨by rfl, ?_⟩) ?_ ?_
  rotate_left
  · intro w'
    go_simp
    with_reducible rfl
  rotate_left
  · simp only [Act.put, List.setIfInBounds_toArray, List.set_cons_zero, List.set_cons_succ]
    rfl
  refine pure_ (i := 8) (N := some 15) (v := ?_) (a' := ?_) #[true, true, true, true, true, true, true, false, true, false, false, false, false, false, false, false, false, false, false, false, false, false, false, false, false] rfl rfl (by kernel_rfl) (fun _ _ _ h => h) (Or.inl ⟨by rfl, ?_⟩) ?_ ?_
  rotate_left
  · intro w'
    go_simp
    with_reducible rfl
  rotate_left
  · simp only [Act.put, List.setIfInBounds_toArray, List.set_cons_zero, List.set_cons_succ]
    rfl
  refine pure_ (i := 9) (N := some 16) (v := ?_) (a' := ?_) #[true, true, true, true, true, true, true, false, true, true, false, false, false, false, false, false, false, false, false, false, false, false, false, false, false] rfl rfl (by kernel_rfl) (fun _ _ _ h => h) (Or.inl ⟨by rfl, ?_⟩) ?_ ?_
  rotate_left
  · intro w'
    go_simp
    with_reducible rfl
  rotate_left
  · simp only [Act.put, List.setIfInBounds_toArray, List.set_cons_zero, List.set_cons_succ]
    rfl
  refine one_ (i := 7) (N := some 14) #[true, true, true, true, true, true, true, true, true, true, false, false, false, false, false, false, false, false, false, false, false, false, false, false, false] rfl rfl (by kernel_rfl) (by simp) (fun K hK => ?_)
  refine goes_ Try.func14 (by kernel_rfl) rfl #[.slice (some ⟨w.heap.size, 0, none⟩) 4 4, .int .i64 6] (by rfl) rfl rfl (by simp only [List.map_toArray, List.map_cons, List.map_nil] <;> rfl) ?_
  refine (keep_calls (some ⟨w.heap.size, 0, none⟩) 4 l4 6 wb HC.out (by decide) four_z).mono ?_
  rintro e wc ⟨ua2, rfl, hR, hb⟩
  rw [four_k6] at hR
  obtain ⟨A2, c2, hu2, hc2, hC2⟩ := Kd.R_reads hR
  subst hu2
  have n_HC := Aside0.mk (Kd.C_below HC.out hb)
  have n_HB := Aside0.mk (below_step HB.out hb)
  clear HC HB hR hb
  have HC := n_HC
  have HB := n_HB
  clear n_HC n_HB
  have HC2 := Aside0.mk hC2
  clear hC2
  refine ⟨_, rfl, hK.out _ _ trivial (fun _ => ?_)⟩
  clear hK K
  refine norm_ (a' := ?_) ?_ ?_
  rotate_left
  · simp only [Act.put, List.setIfInBounds_toArray, List.set_cons_zero, List.set_cons_succ]
    rfl
  refine one_ (i := 10) (N := some 17) #[true, true, true, true, true, true, true, true, true, true, true, false, false, false, false, false, false, false, false, false, false, false, false, false, false] rfl rfl (by kernel_rfl) (by simp) (fun K hK => ?_)
  refine goes_ Try.func15 (by kernel_rfl) rfl #[.slice A2 1 c2, .slice (some ⟨w.heap.size, 16, none⟩) 1 2] (by rfl) rfl rfl (by simp only [List.map_toArray, List.map_cons, List.map_nil] <;> rfl) ?_
  refine (same_calls A2 (some ⟨w.heap.size, 16, none⟩) c2 2 [r2] wc HC2.out (four_E HC.out)).mono ?_
  rintro e wd ⟨rfl, hb⟩
  have n_HC := Aside0.mk (Kd.C_below HC.out hb)
  have n_HB := Aside0.mk (below_step HB.out hb)
  clear HC HB hb HC2
  have HC := n_HC
  have HB := n_HB
  clear n_HC n_HB
  refine ⟨_, rfl, hK.out _ _ trivial (fun _ => ?_)⟩
  clear hK K
  refine norm_ (a' := ?_) ?_ ?_
  rotate_left
  · simp only [Act.put, List.setIfInBounds_toArray, List.set_cons_zero, List.set_cons_succ]
    rfl
  refine pure_ (i := 11) (N := some 18) (v := ?_) (a' := ?_) #[true, true, true, true, true, true, true, true, true, true, true, true, false, false, false, false, false, false, false, false, false, false, false, false, false] rfl rfl (by kernel_rfl) (fun _ _ _ h => h) (Or.inl ⟨by rfl, ?_⟩) ?_ ?_
  rotate_left
  · intro w'
    go_simp
    with_reducible rfl
  rotate_left
  · simp only [Act.put, List.setIfInBounds_toArray, List.set_cons_zero, List.set_cons_succ]
    rfl
  refine pure_ (i := 12) (N := some 19) (v := ?_) (a' := ?_) #[true, true, true, true, true, true, true, true, true, true, true, true, true, false, false, false, false, false, false, false, false, false, false, false, false] rfl rfl (by kernel_rfl) (fun _ _ _ h => h) (Or.inl ⟨by rfl, ?_⟩) ?_ ?_
  rotate_left
  · intro w'
    go_simp
    with_reducible rfl
  rotate_left
  · simp only [Act.put, List.setIfInBounds_toArray, List.set_cons_zero, List.set_cons_succ]
    rfl
  refine pure_ (i := 13) (N := some 20) (v := ?_) (a' := ?_) #[true, true, true, true, true, true, true, true, true, true, true, true, true, true, false, false, false, false, false, false, false, false, false, false, false] rfl rfl (by kernel_rfl) (fun _ _ _ h => h) (Or.inl ⟨by rfl, ?_⟩) ?_ ?_
  rotate_left
  · intro w'
    go_simp
    with_reducible rfl
  rotate_left
  · simp only [Act.put, List.setIfInBounds_toArray, List.set_cons_zero, List.set_cons_succ]
    rfl
  refine pure_ (i := 15) (N := some 22) (v := ?_) (a' := ?_) #[true, true, true, true, true, true, true, true, true, true, true, true, true, true, false, true, false, false, false, false, false, false, false, false, false] rfl rfl (by kernel_rfl) (fun _ _ _ h => h) (Or.inl ⟨by rfl, ?_⟩) ?_ ?_
  rotate_left
  · intro w'
    go_simp
    with_reducible rfl
  rotate_left
  · simp only [Act.put, List.setIfInBounds_toArray, List.set_cons_zero, List.set_cons_succ]
    rfl
  refine pure_ (i := 16) (N := some 23) (v := ?_) (a' := ?_) #[true, true, true, true, true, true, true, true, true, true, true, true, true, true, false, true, true, false, false, false, false, false, false, false, false] rfl rfl (by kernel_rfl) (fun _ _ _ h => h) (Or.inl ⟨by rfl, ?_⟩) ?_ ?_
  rotate_left
  · intro w'
    go_simp
    with_reducible rfl
  rotate_left
  · simp only [Act.put, List.setIfInBounds_toArray, List.set_cons_zero, List.set_cons_succ]
    rfl
  refine one_ (i := 14) (N := some 21) #[true, true, true, true, true, true, true, true, true, true, true, true, true, true, true, true, true, false, false, false, false, false, false, false, false] rfl rfl (by kernel_rfl) (by simp) (fun K hK => ?_)
  refine goes_ Try.func17 (by kernel_rfl) rfl #[.slice (some ⟨w.heap.size, 0, none⟩) 4 4] (by rfl) rfl rfl (by simp only [List.map_toArray, List.map_cons, List.map_nil] <;> rfl) ?_
  refine (pview_calls (some ⟨w.heap.size, 0, none⟩) 4 l4 wd HC.out (by decide) four_z).mono ?_
  rintro e we ⟨ua3, rfl, hR, hb⟩
  rw [four_v] at hR
  obtain ⟨A3, c3, hu3, hc3, hC3⟩ := Kd.R_reads hR
  subst hu3
  have n_HC := Aside0.mk (Kd.C_below HC.out hb)
  have n_HB := Aside0.mk (below_step HB.out hb)
  clear HC HB hR hb
  have HC := n_HC
  have HB := n_HB
  clear n_HC n_HB
  have HC3 := Aside0.mk hC3
  clear hC3
  refine ⟨_, rfl, hK.out _ _ trivial (fun _ => ?_)⟩
  clear hK K
  refine norm_ (a' := ?_) ?_ ?_
  rotate_left
  · simp only [Act.put, List.setIfInBounds_toArray, List.set_cons_zero, List.set_cons_succ]
    rfl
  refine one_ (i := 17) (N := some 24) #[true, true, true, true, true, true, true, true, true, true, true, true, true, true, true, true, true, true, false, false, false, false, false, false, false] rfl rfl (by kernel_rfl) (by simp) (fun K hK => ?_)
  refine goes_ Try.func15 (by kernel_rfl) rfl #[.slice A3 1 c3, .slice (some ⟨w.heap.size, 16, none⟩) 1 2] (by rfl) rfl rfl (by simp only [List.map_toArray, List.map_cons, List.map_nil] <;> rfl) ?_
  refine (same_calls A3 (some ⟨w.heap.size, 16, none⟩) c3 2 [r2] we HC3.out (four_E HC.out)).mono ?_
  rintro e wf ⟨rfl, hb⟩
  have n_HC := Aside0.mk (Kd.C_below HC.out hb)
  have n_HB := Aside0.mk (below_step HB.out hb)
  clear HC HB hb HC3
  have HC := n_HC
  have HB := n_HB
  clear n_HC n_HB
  refine ⟨_, rfl, hK.out _ _ trivial (fun _ => ?_)⟩
  clear hK K
  refine norm_ (a' := ?_) ?_ ?_
  rotate_left
  · simp only [Act.put, List.setIfInBounds_toArray, List.set_cons_zero, List.set_cons_succ]
    rfl
  refine pure_ (i := 18) (N := some 25) (v := ?_) (a' := ?_) #[true, true, true, true, true, true, true, true, true, true, true, true, true, true, true, true, true, true, true, false, false, false, false, false, false] rfl rfl (by kernel_rfl) (fun _ _ _ h => h) (Or.inl ⟨by rfl, ?_⟩) ?_ ?_
  rotate_left
  · intro w'
    go_simp
    with_reducible rfl
  rotate_left
  · simp only [Act.put, List.setIfInBounds_toArray, List.set_cons_zero, List.set_cons_succ]
    rfl
  refine pure_ (i := 19) (N := some 26) (v := ?_) (a' := ?_) #[true, true, true, true, true, true, true, true, true, true, true, true, true, true, true, true, true, true, true, true, false, false, false, false, false] rfl rfl (by kernel_rfl) (fun _ _ _ h => h) (Or.inl ⟨by rfl, ?_⟩) ?_ ?_
  rotate_left
  · intro w'
    go_simp
    with_reducible rfl
  rotate_left
  · simp only [Act.put, List.setIfInBounds_toArray, List.set_cons_zero, List.set_cons_succ]
    rfl
  refine pure_ (i := 20) (N := some 27) (v := ?_) (a' := ?_) #[true, true, true, true, true, true, true, true, true, true, true, true, true, true, true, true, true, true, true, true, true, false, false, false, false] rfl rfl (by kernel_rfl) (fun _ _ _ h => h) (Or.inl ⟨by rfl, ?_⟩) ?_ ?_
  rotate_left
  · intro w'
    go_simp
    with_reducible rfl
  rotate_left
  · simp only [Act.put, List.setIfInBounds_toArray, List.set_cons_zero, List.set_cons_succ]
    rfl
  refine one_ (i := 21) (N := some 28) #[true, true, true, true, true, true, true, true, true, true, true, true, true, true, true, true, true, true, true, true, true, true, false, false, false] rfl rfl (by kernel_rfl) (by simp) (fun K hK => ?_)
  refine goes_ Try.func19 (by kernel_rfl) rfl #[.slice (some ⟨w.heap.size, 0, none⟩) 4 4, .int .i64 5] (by rfl) rfl rfl (by simp only [List.map_toArray, List.map_cons, List.map_nil] <;> rfl) ?_
  refine (garbage_calls (some ⟨w.heap.size, 0, none⟩) 4 l4 5 wf HC.out (by decide) four_z).mono ?_
  rw [four_k5]
  rintro e wg ⟨rfl, hb⟩
  have n_HB := Aside0.mk (below_step HB.out hb)
  clear HB HC hb
  have HB := n_HB
  clear n_HB
  refine ⟨_, rfl, hK.out _ _ trivial (fun _ => ?_)⟩
  clear hK K
  refine norm_ (a' := ?_) ?_ ?_
  rotate_left
  · simp only [Act.put, List.setIfInBounds_toArray, List.set_cons_zero, List.set_cons_succ]
    rfl
  refine pure_ (i := 22) (N := some 29) (v := ?_) (a' := ?_) #[true, true, true, true, true, true, true, true, true, true, true, true, true, true, true, true, true, true, true, true, true, true, true, false, false] rfl rfl (by kernel_rfl) (fun _ _ _ h => h) (Or.inl ⟨by rfl, ?_⟩) ?_ ?_
  rotate_left
  · intro w'
    go_simp
    with_reducible rfl
  rotate_left
  · simp only [Act.put, List.setIfInBounds_toArray, List.set_cons_zero, List.set_cons_succ]
    rfl
  refine pure_ (i := 23) (N := some 30) (v := ?_) (a' := ?_) #[true, true, true, true, true, true, true, true, true, true, true, true, true, true, true, true, true, true, true, true, true, true, true, true, false] rfl rfl (by kernel_rfl) (fun _ _ _ h => h) (Or.inl ⟨by rfl, ?_⟩) ?_ ?_
  rotate_left
  · intro w'
    go_simp
    with_reducible rfl
  rotate_left
  · simp only [Act.put, List.setIfInBounds_toArray, List.set_cons_zero, List.set_cons_succ]
    rfl
  refine pure_ (i := 24) (N := some 0) (v := ?_) (a' := ?_) #[true, true, true, true, true, true, true, true, true, true, true, true, true, true, true, true, true, true, true, true, true, true, true, true, true] rfl rfl (by kernel_rfl) (fun _ _ _ h => h) (Or.inl ⟨by rfl, ?_⟩) ?_ ?_
  rotate_left
  · intro w'
    go_simp
    with_reducible rfl
  rotate_left
  · simp only [Act.put, List.setIfInBounds_toArray, List.set_cons_zero, List.set_cons_succ]
    rfl
  refine done_ (by kernel_rfl) ?_
  go_wp2_with fail
  go_ret
  exact ⟨rfl, HB.out⟩
end Go.Proofs.Ytgojaomldkgojaa.Cm
