import Derived.Test.YtohhlkabejangaaMb5
namespace Go.Proofs.Ytohhlkabejangaa.Mb
set_option linter.unusedVariables false
set_option linter.unusedSimpArgs false
open Go.RowKit Go.Maps Go.Sort Go.Proofs.YtohhlkabejangaaW.PrintWords Go.Proofs.YtohhlkabejangaaW.PrintLast Go.Proofs.YtohhlkabejangaaW.PrintMore Go.Proofs.Ytohhlkabejangaa.PAs Go.Proofs.Ytohhlkabejangaa.As
set_option maxHeartbeats 16000000 in
set_option maxRecDepth 100000 in
theorem mnil_calls (kind : Int) (x : ByteArray) (gen slot : Int) (w : World) : Calls Try.prog 7 #[.agg #[.int .i64 kind, .string x, .int .i64 gen, .int .i64 slot]] w fun e w' => e = .returned (.bool true) ∧ Below w.heap.size w w' := by
  have hund : ∀ b, some undef = some (Value.bool b) → False := fun b h => by simp [undef] at h
  go_enter Try.func7, Try.ntmps7
  go_wp2_with (first
    | ((with_reducible refine gate_dst (N := 1) rfl ?_); refine box_event rfl (N := 1) rfl (cs := #[.int .i64 kind, .string x, .int .i64 gen, .int .i64 slot]) (t := 53) ?hr ?_; (case hr => first | (go_simp; done) | (go_simp; rfl)); intro g hgx w1 hbx hbl; have HB := Aside0.mk hbl; have Y := Aside0.mk hbx; clear hbl hgx hbx; have y1 : w1.cell? ⟨g, 1, none⟩ = some (.string x) := (blk_cell Y.out 1).trans rfl; have y2 : w1.cell? ⟨g, 2, none⟩ = some (.int .i64 gen) := (blk_cell Y.out 2).trans rfl; have y3 : w1.cell? ⟨g, 3, none⟩ = some (.int .i64 slot) := (blk_cell Y.out 3).trans rfl))
  refine (nil_join x slot w1).mono ?_
  rintro e w2 ⟨rfl, hb⟩
  have n_HB := Aside0.mk (below_step HB.out hb)
  have n_Y := Aside0.mk ((hb.block g (blk_lt Y.out)).trans Y.out)
  clear HB Y hb y1 y2 y3
  have HB := n_HB
  have Y := n_Y
  clear n_HB n_Y
  have y1 : w2.cell? ⟨g, 1, none⟩ = some (.string x) := (blk_cell Y.out 1).trans rfl; have y2 : w2.cell? ⟨g, 2, none⟩ = some (.int .i64 gen) := (blk_cell Y.out 2).trans rfl; have y3 : w2.cell? ⟨g, 3, none⟩ = some (.int .i64 slot) := (blk_cell Y.out 3).trans rfl
  go_wp2_with fail
  refine (nil_has x w2).mono ?_
  rintro e w3 ⟨rfl, hb⟩
  have n_HB := Aside0.mk (below_step HB.out hb)
  have n_Y := Aside0.mk ((hb.block g (blk_lt Y.out)).trans Y.out)
  clear HB Y hb y1 y2 y3
  have HB := n_HB
  have Y := n_Y
  clear n_HB n_Y
  have y1 : w3.cell? ⟨g, 1, none⟩ = some (.string x) := (blk_cell Y.out 1).trans rfl; have y2 : w3.cell? ⟨g, 2, none⟩ = some (.int .i64 gen) := (blk_cell Y.out 2).trans rfl; have y3 : w3.cell? ⟨g, 3, none⟩ = some (.int .i64 slot) := (blk_cell Y.out 3).trans rfl
  go_wp2_with fail
  refine (nil_leave x slot w3).mono ?_
  rintro e w4 ⟨rfl, hb⟩
  have n_HB := Aside0.mk (below_step HB.out hb)
  have n_Y := Aside0.mk ((hb.block g (blk_lt Y.out)).trans Y.out)
  clear HB Y hb y1 y2 y3
  have HB := n_HB
  have Y := n_Y
  clear n_HB n_Y
  have y1 : w4.cell? ⟨g, 1, none⟩ = some (.string x) := (blk_cell Y.out 1).trans rfl; have y2 : w4.cell? ⟨g, 2, none⟩ = some (.int .i64 gen) := (blk_cell Y.out 2).trans rfl; have y3 : w4.cell? ⟨g, 3, none⟩ = some (.int .i64 slot) := (blk_cell Y.out 3).trans rfl
  go_wp2_with fail
  refine (nil_beat x gen slot w4).mono ?_
  rintro e w5 ⟨rfl, hb⟩
  have n_HB := Aside0.mk (below_step HB.out hb)
  have n_Y := Aside0.mk ((hb.block g (blk_lt Y.out)).trans Y.out)
  clear HB Y hb y1 y2 y3
  have HB := n_HB
  have Y := n_Y
  clear n_HB n_Y
  have y1 : w5.cell? ⟨g, 1, none⟩ = some (.string x) := (blk_cell Y.out 1).trans rfl; have y2 : w5.cell? ⟨g, 2, none⟩ = some (.int .i64 gen) := (blk_cell Y.out 2).trans rfl; have y3 : w5.cell? ⟨g, 3, none⟩ = some (.int .i64 slot) := (blk_cell Y.out 3).trans rfl
  go_wp2_with fail
  refine (nil_sweep slot w5).mono ?_
  rintro e w6 ⟨rfl, hb⟩
  have n_HB := Aside0.mk (below_step HB.out hb)
  have n_Y := Aside0.mk ((hb.block g (blk_lt Y.out)).trans Y.out)
  clear HB Y hb y1 y2 y3
  have HB := n_HB
  have Y := n_Y
  clear n_HB n_Y
  have y1 : w6.cell? ⟨g, 1, none⟩ = some (.string x) := (blk_cell Y.out 1).trans rfl; have y2 : w6.cell? ⟨g, 2, none⟩ = some (.int .i64 gen) := (blk_cell Y.out 2).trans rfl; have y3 : w6.cell? ⟨g, 3, none⟩ = some (.int .i64 slot) := (blk_cell Y.out 3).trans rfl
  go_wp2_with fail
  refine (nil_members w6).mono ?_
  rintro e w7 ⟨rfl, hb⟩
  have n_HB := Aside0.mk (below_step HB.out hb)
  have n_Y := Aside0.mk ((hb.block g (blk_lt Y.out)).trans Y.out)
  clear HB Y hb y1 y2 y3
  have HB := n_HB
  have Y := n_Y
  clear n_HB n_Y
  have y1 : w7.cell? ⟨g, 1, none⟩ = some (.string x) := (blk_cell Y.out 1).trans rfl; have y2 : w7.cell? ⟨g, 2, none⟩ = some (.int .i64 gen) := (blk_cell Y.out 2).trans rfl; have y3 : w7.cell? ⟨g, 3, none⟩ = some (.int .i64 slot) := (blk_cell Y.out 3).trans rfl
  go_wp2_with fail
  refine (nil_gen w7).mono ?_
  rintro e w8 ⟨rfl, hb⟩
  have n_HB := Aside0.mk (below_step HB.out hb)
  have n_Y := Aside0.mk ((hb.block g (blk_lt Y.out)).trans Y.out)
  clear HB Y hb y1 y2 y3
  have HB := n_HB
  have Y := n_Y
  clear n_HB n_Y
  have y1 : w8.cell? ⟨g, 1, none⟩ = some (.string x) := (blk_cell Y.out 1).trans rfl; have y2 : w8.cell? ⟨g, 2, none⟩ = some (.int .i64 gen) := (blk_cell Y.out 2).trans rfl; have y3 : w8.cell? ⟨g, 3, none⟩ = some (.int .i64 slot) := (blk_cell Y.out 3).trans rfl
  go_wp2_with fail
  refine (nil_parts w8).mono ?_
  rintro e w9 ⟨rfl, hb⟩
  have n_HB := Aside0.mk (below_step HB.out hb)
  have n_Y := Aside0.mk ((hb.block g (blk_lt Y.out)).trans Y.out)
  clear HB Y hb y1 y2 y3
  have HB := n_HB
  have Y := n_Y
  clear n_HB n_Y
  have y1 : w9.cell? ⟨g, 1, none⟩ = some (.string x) := (blk_cell Y.out 1).trans rfl; have y2 : w9.cell? ⟨g, 2, none⟩ = some (.int .i64 gen) := (blk_cell Y.out 2).trans rfl; have y3 : w9.cell? ⟨g, 3, none⟩ = some (.int .i64 slot) := (blk_cell Y.out 3).trans rfl
  go_wp2_with fail
  refine (out_calls w9).mono ?_
  rintro e w10 ⟨rfl, hb⟩
  have n_HB := Aside0.mk (below_step HB.out hb)
  have n_Y := Aside0.mk ((hb.block g (blk_lt Y.out)).trans Y.out)
  clear HB Y hb y1 y2 y3
  have HB := n_HB
  have Y := n_Y
  clear n_HB n_Y
  have y1 : w10.cell? ⟨g, 1, none⟩ = some (.string x) := (blk_cell Y.out 1).trans rfl; have y2 : w10.cell? ⟨g, 2, none⟩ = some (.int .i64 gen) := (blk_cell Y.out 2).trans rfl; have y3 : w10.cell? ⟨g, 3, none⟩ = some (.int .i64 slot) := (blk_cell Y.out 3).trans rfl
  go_wp2_with fail
  go_ret
  exact ⟨rfl, HB.out⟩
end Go.Proofs.Ytohhlkabejangaa.Mb
