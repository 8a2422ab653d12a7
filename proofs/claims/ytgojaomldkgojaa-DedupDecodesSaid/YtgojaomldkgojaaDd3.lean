import Derived.Test.YtgojaomldkgojaaDd2
namespace Go.Proofs.Ytgojaomldkgojaa.Dd
set_option linter.unusedVariables false
set_option linter.unusedSimpArgs false
open Go.RowKit Go.Maps Go.Proofs.YtgojaomldkgojaaW.PrintWords Go.Proofs.YtgojaomldkgojaaW.PrintLast Go.Proofs.YtgojaomldkgojaaW.PrintMore Go.Proofs.Ytgojaomldkgojaa.PDd Go.Proofs.Ytgojaomldkgojaa.Wire Go.Proofs.Ytgojaomldkgojaa.Hand
set_option maxHeartbeats 16000000 in
set_option maxRecDepth 100000 in
theorem check_nil (p s n : Int) (w : World) : Calls Try.prog 24 #[.pointer none, .int .i64 p, .int .i64 s, .int .i64 n] w fun e w' => e = .returned (.tuple #[.int .i64 0, .bool false, .int .i64 7]) ∧ Below w.heap.size w w' := by
  go_enter Try.func24, Try.ntmps24
  go_wp2_with fail
  exact bodyPost_ret (v := .tuple #[.int .i64 0, .bool false, .int .i64 7]) (by simp [results, Try.results24, go_sem]) rfl ⟨rfl, Below.refl _ _⟩
set_option maxHeartbeats 16000000 in
set_option maxRecDepth 100000 in
theorem note_nil (p s n o : Int) (w : World) : Calls Try.prog 23 #[.pointer none, .int .i64 p, .int .i64 s, .int .i64 n, .int .i64 o] w fun e w' => e = .returned (.int .i64 7) ∧ Below w.heap.size w w' := by
  go_enter Try.func23, Try.ntmps23
  go_wp2_with fail
  go_ret
  exact ⟨rfl, Below.refl _ _⟩
set_option maxHeartbeats 16000000 in
set_option maxRecDepth 100000 in
theorem next_nil (p : Int) (w : World) : Calls Try.prog 29 #[.pointer none, .int .i64 p] w fun e w' => e = .returned (.int .i64 0) ∧ Below w.heap.size w w' := by
  go_enter Try.func29, Try.ntmps29
  go_wp2_with fail
  go_ret
  exact ⟨rfl, Below.refl _ _⟩
set_option maxHeartbeats 16000000 in
set_option maxRecDepth 100000 in
theorem copy_nil (w : World) : Calls Try.prog 27 #[.pointer none] w fun e w' => e = .returned (.pointer none) ∧ Below w.heap.size w w' := by
  go_enter Try.func27, Try.ntmps27
  go_wp2_with fail
  go_ret
  exact ⟨rfl, Below.refl _ _⟩
abbrev l7 : List La := [⟨7, 0, 3, 40⟩]
theorem seven_e : (encL l7).toList = [1, 7, 0, 3, 40] := by
  rw [ByteArray.toList_eq]
  decide +kernel
theorem nil_e : (chs [0]).toList = [0] := by
  rw [ByteArray.toList_eq]
  decide +kernel
theorem seven_1 : chk [] 7 0 3 = (0, false, 0) := by decide
theorem seven_2 : noteE [] ⟨7, 0, 3, 40⟩ = 0 := by decide
theorem seven_3 : noteR [] ⟨7, 0, 3, 40⟩ = l7 := by unfold noteR; rw [seven_2]; rfl
theorem seven_4 : chk l7 7 0 3 = (40, true, 0) := by decide
theorem seven_5 : chk l7 7 3 1 = (0, false, 0) := by decide
theorem seven_6 : chk l7 7 4 1 = (0, false, 33) := by decide
theorem seven_7 : (lookL l7 7).1 + (lookL l7 7).2.1 = 3 := by decide
set_option maxHeartbeats 16000000 in
set_option maxRecDepth 100000 in
theorem seven_calls (w : World) : Calls Try.prog 20 #[] w fun e w' => e = .returned (.bool true) ∧ Below w.heap.size w w' := by
  have hund : ∀ b, some undef = some (Value.bool b) → False := fun b h => by simp [undef] at h
  go_enter Try.func20, Try.ntmps20
  go_wp2_with fail
  refine (new_calls w).mono ?_
  rintro e w1 ⟨g, b, rfl, hT, hg, hbs, hb⟩
  have HT := Aside0.mk hT
  have HB := Aside0.mk hb
  clear hT hb hg
  go_wp2_with fail
  have hk := check_calls g b [] 7 0 3 w1 HT.out (by decide)
  simp only [seven_1] at hk
  refine hk.mono ?_
  clear hk
  rintro e w2 ⟨rfl, hb⟩
  have n_HT := Aside0.mk (HT.out.later hb)
  have n_HB := Aside0.mk (below_step HB.out hb)
  clear HT HB hb
  have HT := n_HT
  have HB := n_HB
  clear n_HT n_HB
  go_wp2_with fail
  have hk := note_calls g b [] 7 0 3 40 w2 HT.out (by decide)
  simp only [seven_2, seven_3] at hk
  refine hk.mono ?_
  clear hk
  rintro e w3 ⟨rfl, hT3, hgr⟩
  have n_HB := Aside0.mk (below_put HB.out hbs hgr HB.out.size)
  clear HB HT hgr hbs
  have HB := n_HB
  have HT := Aside0.mk hT3
  clear n_HB hT3
  go_wp2_with fail
  have hk := check_calls g b l7 7 0 3 w3 HT.out (by decide)
  simp only [seven_4] at hk
  refine hk.mono ?_
  clear hk
  rintro e w4 ⟨rfl, hb⟩
  have n_HT := Aside0.mk (HT.out.later hb)
  have n_HB := Aside0.mk (below_step HB.out hb)
  clear HT HB hb
  have HT := n_HT
  have HB := n_HB
  clear n_HT n_HB
  go_wp2_with fail
  have hk := check_calls g b l7 7 3 1 w4 HT.out (by decide)
  simp only [seven_5] at hk
  refine hk.mono ?_
  clear hk
  rintro e w5 ⟨rfl, hb⟩
  have n_HT := Aside0.mk (HT.out.later hb)
  have n_HB := Aside0.mk (below_step HB.out hb)
  clear HT HB hb
  have HT := n_HT
  have HB := n_HB
  clear n_HT n_HB
  go_wp2_with fail
  have hk := check_calls g b l7 7 4 1 w5 HT.out (by decide)
  simp only [seven_6] at hk
  refine hk.mono ?_
  clear hk
  rintro e w6 ⟨rfl, hb⟩
  have n_HT := Aside0.mk (HT.out.later hb)
  have n_HB := Aside0.mk (below_step HB.out hb)
  clear HT HB hb
  have HT := n_HT
  have HB := n_HB
  clear n_HT n_HB
  go_wp2_with fail
  have hk := next_calls g b l7 7 ⟨by decide, by decide⟩ w6 HT.out
  simp only [seven_7] at hk
  refine hk.mono ?_
  clear hk
  rintro e w7 ⟨rfl, hb⟩
  have n_HT := Aside0.mk (HT.out.later hb)
  have n_HB := Aside0.mk (below_step HB.out hb)
  clear HT HB hb
  have HT := n_HT
  have HB := n_HB
  clear n_HT n_HB
  go_wp2_with fail
  have hk := encode_calls g b l7 w7 HT.out (by decide)
  have hes := seven_e
  generalize encL l7 = es at *
  refine hk.mono ?_
  clear hk
  rintro e w8 ⟨rfl, hb⟩
  have n_HB := Aside0.mk (below_step HB.out hb)
  clear HB hb HT
  have HB := n_HB
  clear n_HB
  go_wp2_with fail
  go_ret
  exact ⟨rfl, HB.out⟩
set_option maxHeartbeats 16000000 in
set_option maxRecDepth 100000 in
theorem dnil_calls (x0 x1 x2 x3 x4 : Int) (w : World) : Calls Try.prog 7 #[.agg #[.int .i64 x0, .int .i64 x1, .int .i64 x2, .int .i64 x3, .int .i64 x4]] w fun e w' => e = .returned (.bool true) ∧ Below w.heap.size w w' := by
  have hund : ∀ b, some undef = some (Value.bool b) → False := fun b h => by simp [undef] at h
  go_enter Try.func7, Try.ntmps7
  go_wp2_with (first
    | ((with_reducible refine gate_dst (N := 1) rfl ?_); refine box_event rfl (N := 1) rfl (cs := #[.int .i64 x0, .int .i64 x1, .int .i64 x2, .int .i64 x3, .int .i64 x4]) (t := 38) ?hr ?_; (case hr => first | (go_simp; done) | (go_simp; rfl)); intro g1 hg1 w1 hbx hbl; have HB := Aside0.mk hbl; have Y := Aside0.mk hbx; clear hbl hbx hg1; have y0 : w1.cell? ⟨g1, 0, none⟩ = some (.int .i64 x0) := (blk_cell Y.out 0).trans rfl; have y1 : w1.cell? ⟨g1, 1, none⟩ = some (.int .i64 x1) := (blk_cell Y.out 1).trans rfl; have y2 : w1.cell? ⟨g1, 2, none⟩ = some (.int .i64 x2) := (blk_cell Y.out 2).trans rfl; have y3 : w1.cell? ⟨g1, 3, none⟩ = some (.int .i64 x3) := (blk_cell Y.out 3).trans rfl; have y4 : w1.cell? ⟨g1, 4, none⟩ = some (.int .i64 x4) := (blk_cell Y.out 4).trans rfl))
  refine (check_nil x1 x2 x3 w1).mono ?_
  rintro e w2 ⟨rfl, hb⟩
  have n_HB := Aside0.mk (below_step HB.out hb)
  have n_Y := Aside0.mk (blk_below Y.out hb)
  clear HB Y hb y0 y1 y2 y3 y4
  have HB := n_HB
  have Y := n_Y
  clear n_HB n_Y
  have y0 : w2.cell? ⟨g1, 0, none⟩ = some (.int .i64 x0) := (blk_cell Y.out 0).trans rfl
  have y1 : w2.cell? ⟨g1, 1, none⟩ = some (.int .i64 x1) := (blk_cell Y.out 1).trans rfl
  have y2 : w2.cell? ⟨g1, 2, none⟩ = some (.int .i64 x2) := (blk_cell Y.out 2).trans rfl
  have y3 : w2.cell? ⟨g1, 3, none⟩ = some (.int .i64 x3) := (blk_cell Y.out 3).trans rfl
  have y4 : w2.cell? ⟨g1, 4, none⟩ = some (.int .i64 x4) := (blk_cell Y.out 4).trans rfl
  go_wp2_with fail
  refine (note_nil x1 x2 x3 x4 w2).mono ?_
  rintro e w3 ⟨rfl, hb⟩
  have n_HB := Aside0.mk (below_step HB.out hb)
  have n_Y := Aside0.mk (blk_below Y.out hb)
  clear HB Y hb y0 y1 y2 y3 y4
  have HB := n_HB
  have Y := n_Y
  clear n_HB n_Y
  have y0 : w3.cell? ⟨g1, 0, none⟩ = some (.int .i64 x0) := (blk_cell Y.out 0).trans rfl
  have y1 : w3.cell? ⟨g1, 1, none⟩ = some (.int .i64 x1) := (blk_cell Y.out 1).trans rfl
  have y2 : w3.cell? ⟨g1, 2, none⟩ = some (.int .i64 x2) := (blk_cell Y.out 2).trans rfl
  have y3 : w3.cell? ⟨g1, 3, none⟩ = some (.int .i64 x3) := (blk_cell Y.out 3).trans rfl
  have y4 : w3.cell? ⟨g1, 4, none⟩ = some (.int .i64 x4) := (blk_cell Y.out 4).trans rfl
  go_wp2_with fail
  refine (producers_nil w3).mono ?_
  rintro e w4 ⟨rfl, hb⟩
  have n_HB := Aside0.mk (below_step HB.out hb)
  have n_Y := Aside0.mk (blk_below Y.out hb)
  clear HB Y hb y0 y1 y2 y3 y4
  have HB := n_HB
  have Y := n_Y
  clear n_HB n_Y
  have y0 : w4.cell? ⟨g1, 0, none⟩ = some (.int .i64 x0) := (blk_cell Y.out 0).trans rfl
  have y1 : w4.cell? ⟨g1, 1, none⟩ = some (.int .i64 x1) := (blk_cell Y.out 1).trans rfl
  have y2 : w4.cell? ⟨g1, 2, none⟩ = some (.int .i64 x2) := (blk_cell Y.out 2).trans rfl
  have y3 : w4.cell? ⟨g1, 3, none⟩ = some (.int .i64 x3) := (blk_cell Y.out 3).trans rfl
  have y4 : w4.cell? ⟨g1, 4, none⟩ = some (.int .i64 x4) := (blk_cell Y.out 4).trans rfl
  go_wp2_with fail
  refine (next_nil x1 w4).mono ?_
  rintro e w5 ⟨rfl, hb⟩
  have n_HB := Aside0.mk (below_step HB.out hb)
  have n_Y := Aside0.mk (blk_below Y.out hb)
  clear HB Y hb y0 y1 y2 y3 y4
  have HB := n_HB
  have Y := n_Y
  clear n_HB n_Y
  have y0 : w5.cell? ⟨g1, 0, none⟩ = some (.int .i64 x0) := (blk_cell Y.out 0).trans rfl
  have y1 : w5.cell? ⟨g1, 1, none⟩ = some (.int .i64 x1) := (blk_cell Y.out 1).trans rfl
  have y2 : w5.cell? ⟨g1, 2, none⟩ = some (.int .i64 x2) := (blk_cell Y.out 2).trans rfl
  have y3 : w5.cell? ⟨g1, 3, none⟩ = some (.int .i64 x3) := (blk_cell Y.out 3).trans rfl
  have y4 : w5.cell? ⟨g1, 4, none⟩ = some (.int .i64 x4) := (blk_cell Y.out 4).trans rfl
  go_wp2_with fail
  have hk := encode_nil w5
  have hes := nil_e
  generalize chs [0] = es at *
  refine hk.mono ?_
  clear hk
  rintro e w6 ⟨rfl, hb⟩
  have n_HB := Aside0.mk (below_step HB.out hb)
  clear HB hb Y y0 y1 y2 y3 y4
  have HB := n_HB
  clear n_HB
  go_wp2_with fail
  refine (copy_nil w6).mono ?_
  rintro e w7 ⟨rfl, hb⟩
  have n_HB := Aside0.mk (below_step HB.out hb)
  clear HB hb
  have HB := n_HB
  clear n_HB
  go_wp2_with fail
  refine (seven_calls w7).mono ?_
  rintro e w8 ⟨rfl, hb⟩
  have n_HB := Aside0.mk (below_step HB.out hb)
  clear HB hb
  have HB := n_HB
  clear n_HB
  go_wp2_with fail
  go_ret
  exact ⟨rfl, HB.out⟩
end Go.Proofs.Ytgojaomldkgojaa.Dd
