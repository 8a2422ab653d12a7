import Derived.Test.YtohhlkabejangaaUOf16
-- halved
namespace Go.Proofs.Ytohhlkabejangaa.Of
set_option linter.unusedVariables false
set_option linter.unusedSimpArgs false
open Go.RowKit Go.Maps Go.Sort Go.Lib Go.Shelf Go.Proofs.YtohhlkabejangaaW.PrintWords Go.Proofs.YtohhlkabejangaaW.PrintLast Go.Proofs.YtohhlkabejangaaW.PrintMore Go.Proofs.Ytohhlkabejangaa.POf Go.Proofs.Ytohhlkabejangaa.Wire
open Go.Proofs.YtohhlkabejangaaW.PrintWords.Aside0 renaming mk → mkA
open Go.Proofs.YtohhlkabejangaaW.PrintWords renaming below_step → zbS
def madE (T : List Rw) (kind n : Int) (k0 k1 : ByteArray) (k2 fk : Int) (fp : ByteArray) : To := if kind = 0 then comE T k0 k1 k2 n else if kind = 1 then clrE k1 else ⟨fk, fp, 0⟩
set_option maxHeartbeats 16000000 in
set_option maxRecDepth 100000 in
theorem made_tab (a b : Nat) (T : List Rw) (kind n : Int) (k0 k1 : ByteArray) (k2 fk : Int) (fp : ByteArray) (h0 : k0.size ≤ 100000) (h1 : k1.size ≤ 100000) (w : World) (h : Tab w a b T) (hn : T.length ≤ 1000000) :
  Calls Try.prog 45 #[.pointer (some ⟨a, 0, none⟩), .agg #[.int .i64 kind, .int .i64 n, .string k0, .string k1, .int .i64 k2, .int .i64 fk, .string fp]] w fun e w' => e = .returned (madE T kind n k0 k1 k2 fk fp).v ∧ Below w.heap.size w w' := by
 have hund : ∀ b, some undef = some (Value.bool b) → False := fun b h => by simp [undef] at h
 have HX := mkA (Below.refl w.heap.size w)
 have HCM := mkA (fun W (h2 : Below w.heap.size w W) => comm_tab a b T k0 k1 k2 n h0 h1 W (h.later h2) hn)
 have HCL := mkA (fun W => clr_tab k1 h1 a W)
 unfold To.v at HCM HCL ⊢
 unfold madE
 clear h h0 h1
 by_cases c0 : kind = 0
 ·have e1 : (kind == 0) = true := by rw [c0]; rfl
  rw [if_pos c0]
  clear c0 HCL
  obtain ⟨E, hE⟩ : ∃ E, comE T k0 k1 k2 n = E := ⟨_, rfl⟩
  rw [hE] at HCM ⊢
  clear hE
  obtain ⟨ek, ep, ee⟩ := E
  go_enter Try.func45, Try.ntmps45
  go_wp2_with (first
   | ((with_reducible refine gate_dst (N := 3) rfl ?_); refine box_event rfl (N := 3) rfl (cs := #[.int .i64 kind, .int .i64 n, .string k0, .string k1, .int .i64 k2, .int .i64 fk, .string fp]) (t := 81) ?hr ?_; (case hr => first | (go_simp; done) | (go_simp; rfl)); intro g3 hg3 w1 hbx hbl; have G3 := mkA (show _ ≤ g3 by rw [hg3]; exact HX.out.size); have n_HX := mkA (zbS HX.out hbl); clear HX ; have HX := n_HX; clear n_HX; have Y3 := mkA hbx; clear hbx hbl hg3; have z0 : w1.cell? ⟨g3, 0, none⟩ = some (.int .i64 kind) := (blk_cell Y3.out 0).trans rfl; have z1 : w1.cell? ⟨g3, 1, none⟩ = some (.int .i64 n) := (blk_cell Y3.out 1).trans rfl; have z3 : w1.cell? ⟨g3, 3, none⟩ = some (.string k1) := (blk_cell Y3.out 3).trans rfl)
   | ((with_reducible refine gate_dst (N := 4) rfl ?_); refine box_event rfl (N := 4) rfl (cs := #[.int .i64 0, .string ⟨#[]⟩]) (t := 79) ?hr ?_; (case hr => first | (go_simp; done) | (go_simp; rfl)); intro g4 hg4 w2 hbx hbl; have G4 := mkA (show _ ≤ g4 by rw [hg4]; exact HX.out.size); have Ng3g4 := mkA (show g3 ≠ g4 from fun e => by have h1 := blk_lt Y3.out; omega); have n_HX := mkA (zbS HX.out hbl); have n_Y3 := mkA ((hbl.block g3 (blk_lt Y3.out)).trans Y3.out); clear HX Y3 ; have HX := n_HX; have Y3 := n_Y3; clear n_HX n_Y3; have Y4 := mkA hbx; clear hbx hbl hg4; have z0 : w2.cell? ⟨g3, 0, none⟩ = some (.int .i64 kind) := (blk_cell Y3.out 0).trans rfl; have z1 : w2.cell? ⟨g3, 1, none⟩ = some (.int .i64 n) := (blk_cell Y3.out 1).trans rfl; have z3 : w2.cell? ⟨g3, 3, none⟩ = some (.string k1) := (blk_cell Y3.out 3).trans rfl)
   | ((with_reducible refine gate_dst (N := 12) rfl ?_); refine load_evm' (N := 12) rfl rfl rfl (cs := #[.string k0, .string k1, .int .i64 k2]) rfl (mid_cells Y3.out 2 #[.string k0, .string k1, .int .i64 k2] (fun j u h => by match j, h with | 0, h => exact h | 1, h => exact h | 2, h => exact h | j + 3, h => exact absurd h (by simp))) Try.underlying74 rfl (by kernel_rfl) ?_)
   | (go_at_call 49; refine (HCM.out _ HX.out).mono ?_; rintro e w3 ⟨rfl, hb⟩; have n_HX := mkA (zbS HX.out hb); have n_Y3 := mkA ((hb.block g3 (blk_lt Y3.out)).trans Y3.out); have n_Y4 := mkA ((hb.block g4 (blk_lt Y4.out)).trans Y4.out); clear HX Y3 Y4 ; have HX := n_HX; have Y3 := n_Y3; have Y4 := n_Y4; clear n_HX n_Y3 n_Y4; clear hb)
   | ((with_reducible refine gate_store (t := 79) (p := 4) rfl ?_); refine store_ev rfl rfl rfl (cells := #[.int .i64 ek, .string ep]) rfl rfl Y4.out (by kernel_rfl) rfl (by kernel_rfl) ?_; intro w5 hbx hgr; have n_HX := mkA (below_put HX.out G4.out hgr HX.out.size); have n_Y3 := mkA (grown_at hgr Y3.out Ng3g4.out); have n_Y4 := mkA (hbx); clear HX Y3 Y4 ; have HX := n_HX; have Y3 := n_Y3; have Y4 := n_Y4; clear n_HX n_Y3 n_Y4; clear hbx hgr; have y0 : w5.cell? ⟨g4, 0, none⟩ = some (.int .i64 ek) := (blk_cell Y4.out 0).trans rfl; have y1 : w5.cell? ⟨g4, 1, none⟩ = some (.string ep) := (blk_cell Y4.out 1).trans rfl))
  exact bodyPost_ret (v := .tuple #[.agg #[.int .i64 ek, .string ep], .int .i64 ee]) (by simp [results, Try.results45, go_sem, y0, y1]) rfl ⟨rfl, HX.out⟩
 ·have e1 : (kind == 0) = false := beq_eq_false_iff_ne.2 c0
  rw [if_neg c0]
  clear c0 HCM
  by_cases c1 : kind = 1
  ·have e2 : (kind == 1) = true := by rw [c1]; rfl
   rw [if_pos c1]
   clear c1
   obtain ⟨E, hE⟩ : ∃ E, clrE k1 = E := ⟨_, rfl⟩
   rw [hE] at HCL ⊢
   clear hE
   obtain ⟨ek, ep, ee⟩ := E
   go_enter Try.func45, Try.ntmps45
   go_wp2_with (first
    | ((with_reducible refine gate_dst (N := 3) rfl ?_); refine box_event rfl (N := 3) rfl (cs := #[.int .i64 kind, .int .i64 n, .string k0, .string k1, .int .i64 k2, .int .i64 fk, .string fp]) (t := 81) ?hr ?_; (case hr => first | (go_simp; done) | (go_simp; rfl)); intro g3 hg3 w1 hbx hbl; have G3 := mkA (show _ ≤ g3 by rw [hg3]; exact HX.out.size); have n_HX := mkA (zbS HX.out hbl); clear HX ; have HX := n_HX; clear n_HX; have Y3 := mkA hbx; clear hbx hbl hg3; have z0 : w1.cell? ⟨g3, 0, none⟩ = some (.int .i64 kind) := (blk_cell Y3.out 0).trans rfl; have z1 : w1.cell? ⟨g3, 1, none⟩ = some (.int .i64 n) := (blk_cell Y3.out 1).trans rfl; have z3 : w1.cell? ⟨g3, 3, none⟩ = some (.string k1) := (blk_cell Y3.out 3).trans rfl)
    | ((with_reducible refine gate_dst (N := 4) rfl ?_); refine box_event rfl (N := 4) rfl (cs := #[.int .i64 0, .string ⟨#[]⟩]) (t := 79) ?hr ?_; (case hr => first | (go_simp; done) | (go_simp; rfl)); intro g4 hg4 w2 hbx hbl; have G4 := mkA (show _ ≤ g4 by rw [hg4]; exact HX.out.size); have Ng3g4 := mkA (show g3 ≠ g4 from fun e => by have h1 := blk_lt Y3.out; omega); have n_HX := mkA (zbS HX.out hbl); have n_Y3 := mkA ((hbl.block g3 (blk_lt Y3.out)).trans Y3.out); clear HX Y3 ; have HX := n_HX; have Y3 := n_Y3; clear n_HX n_Y3; have Y4 := mkA hbx; clear hbx hbl hg4; have z0 : w2.cell? ⟨g3, 0, none⟩ = some (.int .i64 kind) := (blk_cell Y3.out 0).trans rfl; have z1 : w2.cell? ⟨g3, 1, none⟩ = some (.int .i64 n) := (blk_cell Y3.out 1).trans rfl; have z3 : w2.cell? ⟨g3, 3, none⟩ = some (.string k1) := (blk_cell Y3.out 3).trans rfl)
    | (go_at_call 55; refine (HCL.out _).mono ?_; rintro e w3 ⟨rfl, hb⟩; have n_HX := mkA (zbS HX.out hb); have n_Y3 := mkA ((hb.block g3 (blk_lt Y3.out)).trans Y3.out); have n_Y4 := mkA ((hb.block g4 (blk_lt Y4.out)).trans Y4.out); clear HX Y3 Y4 ; have HX := n_HX; have Y3 := n_Y3; have Y4 := n_Y4; clear n_HX n_Y3 n_Y4; clear hb)
    | ((with_reducible refine gate_store (t := 79) (p := 4) rfl ?_); refine store_ev rfl rfl rfl (cells := #[.int .i64 ek, .string ep]) rfl rfl Y4.out (by kernel_rfl) rfl (by kernel_rfl) ?_; intro w5 hbx hgr; have n_HX := mkA (below_put HX.out G4.out hgr HX.out.size); have n_Y3 := mkA (grown_at hgr Y3.out Ng3g4.out); have n_Y4 := mkA (hbx); clear HX Y3 Y4 ; have HX := n_HX; have Y3 := n_Y3; have Y4 := n_Y4; clear n_HX n_Y3 n_Y4; clear hbx hgr; have y0 : w5.cell? ⟨g4, 0, none⟩ = some (.int .i64 ek) := (blk_cell Y4.out 0).trans rfl; have y1 : w5.cell? ⟨g4, 1, none⟩ = some (.string ep) := (blk_cell Y4.out 1).trans rfl))
   exact bodyPost_ret (v := .tuple #[.agg #[.int .i64 ek, .string ep], .int .i64 ee]) (by simp [results, Try.results45, go_sem, y0, y1]) rfl ⟨rfl, HX.out⟩
  ·have e2 : (kind == 1) = false := beq_eq_false_iff_ne.2 c1
   rw [if_neg c1]
   clear c1 HCL
   go_enter Try.func45, Try.ntmps45
   go_wp2_with (first
    | ((with_reducible refine gate_dst (N := 3) rfl ?_); refine box_event rfl (N := 3) rfl (cs := #[.int .i64 kind, .int .i64 n, .string k0, .string k1, .int .i64 k2, .int .i64 fk, .string fp]) (t := 81) ?hr ?_; (case hr => first | (go_simp; done) | (go_simp; rfl)); intro g3 hg3 w1 hbx hbl; have G3 := mkA (show _ ≤ g3 by rw [hg3]; exact HX.out.size); have n_HX := mkA (zbS HX.out hbl); clear HX ; have HX := n_HX; clear n_HX; have Y3 := mkA hbx; clear hbx hbl hg3; have z0 : w1.cell? ⟨g3, 0, none⟩ = some (.int .i64 kind) := (blk_cell Y3.out 0).trans rfl; have z1 : w1.cell? ⟨g3, 1, none⟩ = some (.int .i64 n) := (blk_cell Y3.out 1).trans rfl; have z3 : w1.cell? ⟨g3, 3, none⟩ = some (.string k1) := (blk_cell Y3.out 3).trans rfl)
    | ((with_reducible refine gate_dst (N := 4) rfl ?_); refine box_event rfl (N := 4) rfl (cs := #[.int .i64 0, .string ⟨#[]⟩]) (t := 79) ?hr ?_; (case hr => first | (go_simp; done) | (go_simp; rfl)); intro g4 hg4 w2 hbx hbl; have G4 := mkA (show _ ≤ g4 by rw [hg4]; exact HX.out.size); have Ng3g4 := mkA (show g3 ≠ g4 from fun e => by have h1 := blk_lt Y3.out; omega); have n_HX := mkA (zbS HX.out hbl); have n_Y3 := mkA ((hbl.block g3 (blk_lt Y3.out)).trans Y3.out); clear HX Y3 ; have HX := n_HX; have Y3 := n_Y3; clear n_HX n_Y3; have Y4 := mkA hbx; clear hbx hbl hg4; have z0 : w2.cell? ⟨g3, 0, none⟩ = some (.int .i64 kind) := (blk_cell Y3.out 0).trans rfl; have z1 : w2.cell? ⟨g3, 1, none⟩ = some (.int .i64 n) := (blk_cell Y3.out 1).trans rfl; have z3 : w2.cell? ⟨g3, 3, none⟩ = some (.string k1) := (blk_cell Y3.out 3).trans rfl)
    | ((with_reducible refine gate_dst (N := 29) rfl ?_); refine load_evm' (N := 29) rfl rfl rfl (cs := #[.int .i64 fk, .string fp]) rfl (mid_cells Y3.out 5 #[.int .i64 fk, .string fp] (fun j u h => by match j, h with | 0, h => exact h | 1, h => exact h | j + 2, h => exact absurd h (by simp))) Try.underlying79 rfl (by kernel_rfl) ?_)
    | ((with_reducible refine gate_store (t := 79) (p := 4) rfl ?_); refine store_ev rfl rfl rfl (cells := #[.int .i64 fk, .string fp]) rfl rfl Y4.out (by kernel_rfl) rfl (by kernel_rfl) ?_; intro w5 hbx hgr; have n_HX := mkA (below_put HX.out G4.out hgr HX.out.size); have n_Y3 := mkA (grown_at hgr Y3.out Ng3g4.out); have n_Y4 := mkA (hbx); clear HX Y3 Y4 ; have HX := n_HX; have Y3 := n_Y3; have Y4 := n_Y4; clear n_HX n_Y3 n_Y4; clear hbx hgr; have y0 : w5.cell? ⟨g4, 0, none⟩ = some (.int .i64 fk) := (blk_cell Y4.out 0).trans rfl; have y1 : w5.cell? ⟨g4, 1, none⟩ = some (.string fp) := (blk_cell Y4.out 1).trans rfl))
   exact bodyPost_ret (v := .tuple #[.agg #[.int .i64 fk, .string fp], .int .i64 0]) (by simp [results, Try.results45, go_sem, y0, y1]) rfl ⟨rfl, HX.out⟩
end Go.Proofs.Ytohhlkabejangaa.Of
