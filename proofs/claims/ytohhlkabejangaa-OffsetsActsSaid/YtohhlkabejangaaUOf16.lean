import Derived.Test.YtohhlkabejangaaUOf15
-- halved
namespace Go.Proofs.Ytohhlkabejangaa.Of
set_option linter.unusedVariables false
set_option linter.unusedSimpArgs false
open Go.RowKit Go.Maps Go.Sort Go.Lib Go.Shelf Go.Proofs.YtohhlkabejangaaW.PrintWords Go.Proofs.YtohhlkabejangaaW.PrintLast Go.Proofs.YtohhlkabejangaaW.PrintMore Go.Proofs.Ytohhlkabejangaa.POf Go.Proofs.Ytohhlkabejangaa.Wire
open Go.Proofs.YtohhlkabejangaaW.PrintWords.Aside0 renaming mk → mkA
open Go.Proofs.YtohhlkabejangaaW.PrintWords renaming below_step → zbS
abbrev sG : ByteArray := { data := #[103] }
abbrev sA : ByteArray := { data := #[97] }
abbrev sE : ByteArray := { data := #[1, 103, 1, 97, 1, 5] }
theorem may5 : mayB sG sA 1 5 = true := by decide +kernel
theorem ent5 : entS sG sA 1 5 = sE := by decide +kernel
theorem com5 : comE [] sG sA 1 5 = ⟨1, sE, 0⟩ := by
 unfold comE
 rw [if_pos may5, if_pos (show roomB [] sG = true from rfl), ent5]
theorem ok5 : okE sE = some ⟨sG, sA, 1, 5⟩ := by rw [← ent5]; exact okE_ent may5
theorem app5 : appB [] 1 sE = true := by
 unfold appB cmtB
 rw [if_pos rfl, ok5]
 rfl
theorem app5T : appT [] 1 sE = [⟨⟨sG, sA, 1⟩, 5⟩] := by
 unfold appT cmtT
 rw [if_pos rfl, ok5]
 rfl
theorem okK5 : okK ⟨sG, sA, 1⟩ := okK_of may5
theorem ne_map {W : World} {a b g : Nat} {T : List Rw} {cs : Array Value} {t : TypeId} {f : Nat × Nat} (h : Tab W a b T) (hg : W.heap[g]? = some (.cells cs t f)) : g ≠ b := fun e => by
 rw [e] at hg
 exact h.map _ _ _ hg
theorem mid_cells {W : World} {g t : Nat} {cs : Array Value} (h : W.heap[g]? = some (.cells cs t (0, 0))) (o : Nat) (ks : Array Value) (hk : ∀ (j : Nat) (u : Value), ks[j]? = some u → cs[o + j]? = some u) (j : Nat) (u : Value) (hj : ks[j]? = some u) : W.cell? ((⟨g, o, none⟩ : Addr).add j) = some u := by
 have e : (⟨g, o, none⟩ : Addr).add j = ⟨g, o + j, none⟩ := by simp [Addr.add]
 rw [e]
 exact (blk_cell h (o + j)).trans (hk j u hj)
set_option maxHeartbeats 16000000 in
set_option maxRecDepth 100000 in
theorem five_calls (w : World) : Calls Try.prog 43 #[] w fun e w' => e = .returned (.bool true) ∧ Below w.heap.size w w' := by
 have hund : ∀ b, some undef = some (Value.bool b) → False := fun b h => by simp [undef] at h
 have HNW := mkA (new_calls w)
 go_enter Try.func43, Try.ntmps43
 go_upto_region 3 with (first
  | (go_at_call 44; refine HNW.out.mono ?_; rintro e w1 ⟨a, b, rfl, hT, ha, hb1, hb⟩; have HT := mkA hT; have HBB := mkA hb1; have HB := mkA hb; clear hT ha hb1 hb HNW; have HX := mkA (Below.refl w1.heap.size w1))
  | ((with_reducible refine gate_dst (N := 2) rfl ?_); refine box_event rfl (N := 2) rfl (cs := #[.string ⟨#[]⟩, .string ⟨#[]⟩, .int .i64 0]) (t := 74) ?hr ?_; (case hr => first | (go_simp; done) | (go_simp; rfl)); intro g2 hg2 w2 hbx hbl; have G2 := mkA (show _ ≤ g2 by rw [hg2]; exact HX.out.size); have n_HX := mkA (zbS HX.out hbl); clear HX ; have HX := n_HX; clear n_HX; have Y2 := mkA hbx; clear hbx hbl hg2)
  | ((with_reducible refine gate_store (t := 74) (p := 2) rfl ?_); refine store_ev rfl rfl rfl (cells := #[.string sG, .string sA, .int .i64 1]) rfl rfl Y2.out (by kernel_rfl) rfl (by kernel_rfl) ?_; intro w3 hbx hgr; have n_HX := mkA (below_put HX.out G2.out hgr HX.out.size); have n_Y2 := mkA (hbx); clear HX Y2 ; have HX := n_HX; have Y2 := n_Y2; clear n_HX n_Y2; clear hbx hgr))
 have HCM := mkA (comm_tab a b [] sG sA 1 5 (by decide +kernel) (by decide +kernel) w3 (HT.out.later HX.out) (by simp))
 rw [com5] at HCM
 unfold To.v at HCM
 go_upto_region 4 with (first
  | ((with_reducible refine gate_dst (N := 13) rfl ?_); refine load_ev (N := 13) rfl rfl rfl (cs := #[.string sG, .string sA, .int .i64 1]) rfl Y2.out Try.underlying74 rfl (by kernel_rfl) ?_)
  | (go_at_call 49; refine (HCM.out).mono ?_; rintro e w4 ⟨rfl, hb⟩; have n_HX := mkA (zbS HX.out hb); have n_Y2 := mkA ((hb.block g2 (blk_lt Y2.out)).trans Y2.out); clear HX Y2 ; have HX := n_HX; have Y2 := n_Y2; clear n_HX n_Y2; clear hb HCM)
  | ((with_reducible refine gate_dst (N := 3) rfl ?_); refine box_event rfl (N := 3) rfl (cs := #[.int .i64 0, .string ⟨#[]⟩]) (t := 79) ?hr ?_; (case hr => first | (go_simp; done) | (go_simp; rfl)); intro g3 hg3 w5 hbx hbl; have G3 := mkA (show _ ≤ g3 by rw [hg3]; exact HX.out.size); have Ng2g3 := mkA (show g2 ≠ g3 from fun e => by have h1 := blk_lt Y2.out; omega); have n_HX := mkA (zbS HX.out hbl); have n_Y2 := mkA ((hbl.block g2 (blk_lt Y2.out)).trans Y2.out); clear HX Y2 ; have HX := n_HX; have Y2 := n_Y2; clear n_HX n_Y2; have Y3 := mkA hbx; clear hbx hbl hg3)
  | ((with_reducible refine gate_store (t := 79) (p := 3) rfl ?_); refine store_ev rfl rfl rfl (cells := #[.int .i64 1, .string sE]) rfl rfl Y3.out (by kernel_rfl) rfl (by kernel_rfl) ?_; intro w6 hbx hgr; have n_HX := mkA (below_put HX.out G3.out hgr HX.out.size); have n_Y2 := mkA (grown_at hgr Y2.out Ng2g3.out); have n_Y3 := mkA (hbx); clear HX Y2 Y3 ; have HX := n_HX; have Y2 := n_Y2; have Y3 := n_Y3; clear n_HX n_Y2 n_Y3; clear hbx hgr))
 have HAP := mkA (apply_tab a b [] 1 sE (by decide +kernel) w6 (HT.out.later HX.out) (by simp))
 rw [app5, app5T] at HAP
 go_upto_region 5 with (first
  | ((with_reducible refine gate_dst (N := 18) rfl ?_); refine load_ev (N := 18) rfl rfl rfl (cs := #[.int .i64 1, .string sE]) rfl Y3.out Try.underlying79 rfl (by kernel_rfl) ?_)
  | (go_at_call 46; refine HAP.out.mono ?_; rintro e w7 ⟨rfl, hT, hG⟩; have hT6 := HT.out.later HX.out; have n_Y2 := mkA (grown_at hG Y2.out (ne_map hT6 Y2.out)); have n_Y3 := mkA (grown_at hG Y3.out (ne_map hT6 Y3.out)); have n_B := mkA (below_put (zbS HB.out HX.out) HBB.out hG (Nat.le_trans HB.out.size HX.out.size)); clear HT HX Y2 Y3 HB HAP hT6 hG; have HT := mkA hT; clear hT; have Y2 := n_Y2; have Y3 := n_Y3; have HB := n_B; clear n_Y2 n_Y3 n_B; have HX := mkA (Below.refl w7.heap.size w7)))
 have HGT := mkA (get_tab a b [⟨⟨sG, sA, 1⟩, 5⟩] sG sA 1 okK5 w7 HT.out)
 rw [show valT [⟨⟨sG, sA, 1⟩, 5⟩] ⟨sG, sA, 1⟩ = 5 from by decide +kernel, show isT [⟨⟨sG, sA, 1⟩, 5⟩] ⟨sG, sA, 1⟩ = true from by decide +kernel] at HGT
 go_upto_region 6 with (first
  | ((with_reducible refine gate_dst (N := 22) rfl ?_); refine load_ev (N := 22) rfl rfl rfl (cs := #[.string sG, .string sA, .int .i64 1]) rfl Y2.out Try.underlying74 rfl (by kernel_rfl) ?_)
  | (go_at_call 48; refine (HGT.out).mono ?_; rintro e w8 ⟨rfl, hb⟩; have n_HX := mkA (zbS HX.out hb); have n_Y2 := mkA ((hb.block g2 (blk_lt Y2.out)).trans Y2.out); have n_Y3 := mkA ((hb.block g3 (blk_lt Y3.out)).trans Y3.out); clear HX Y2 Y3 ; have HX := n_HX; have Y2 := n_Y2; have Y3 := n_Y3; clear n_HX n_Y2 n_Y3; clear hb HGT; have y31 : w8.cell? ⟨g3, 1, none⟩ = some (.string sE) := (blk_cell Y3.out 1).trans rfl))
 have HGR := mkA (groups_tab a b [⟨⟨sG, sA, 1⟩, 5⟩] w8 (HT.out.later HX.out) (by simp))
 rw [show grpT [⟨⟨sG, sA, 1⟩, 5⟩] = 1 from by decide +kernel] at HGR
 have HKY := mkA (fun W (h : Below w7.heap.size w7 W) => keys_tab a b [⟨⟨sG, sA, 1⟩, 5⟩] W (HT.out.later h) (by simp))
 go_wp2_with (first
  | (go_at_call 56; refine (HGR.out).mono ?_; rintro e w9 ⟨rfl, hb⟩; have n_HX := mkA (zbS HX.out hb); have n_Y2 := mkA ((hb.block g2 (blk_lt Y2.out)).trans Y2.out); have n_Y3 := mkA ((hb.block g3 (blk_lt Y3.out)).trans Y3.out); clear HX Y2 Y3 ; have HX := n_HX; have Y2 := n_Y2; have Y3 := n_Y3; clear n_HX n_Y2 n_Y3; clear hb HGR)
  | (go_at_call 47; refine (HKY.out _ HX.out).mono ?_; rintro e w10 ⟨A, c, rfl, hR, hb⟩; have HBZ := mkA (zbS HB.out (zbS HX.out hb)); clear hR hb))
 go_ret
 exact ⟨rfl, HBZ.out⟩
end Go.Proofs.Ytohhlkabejangaa.Of
