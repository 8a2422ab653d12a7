import Derived.Test.YtlgihjhlkpmpnaaQPWirex0
import Derived.Test.YtlgihjhlkpmpnaaQPWirex4
-- halved
-- Laid by a program of this session (wip/pr/mkprint.py: the print of the kit, turned to take hand-proved contracts).
namespace Go.Proofs.Ytlgihjhlkpmpnaa.PWire
open Go.Proofs.Ytlgihjhlkpmpnaa.Hand
open Go.RowKit Go.Proofs.YtlgihjhlkpmpnaaW.PrintWords Go.Proofs.YtlgihjhlkpmpnaaW.PrintLast Go.Proofs.YtlgihjhlkpmpnaaW.PrintMore
open Go.Proofs.YtlgihjhlkpmpnaaW.PrintWords renaming blk_drewN → bN, blk_drew → bD, blk_alloc → bA, below_alloc → lA, pw_below_drewN → lN, below_drew1 → lD, below_set → lS, blk_cell → bC, blk_frozen → bF, blk_far → bR, blk_put → bP, blk_below → bB
attribute [local go_sem] max2_int min2_int max_two min_two max_three min_three max_four min_four   -- for this text's walks alone
set_option linter.unusedVariables false
set_option linter.unusedSimpArgs false

/-! ### weighlockref01_Untext: function 112 -/
def weighlockref01_Untext.f (k : Nat) (a0 : ByteArray) : Option (ByteArray × Int × Int) := (weighlockref01_Unchain.f k a0).bind fun bt155 => (if bt155.2.2 = 0 then (if bt155.1 > 1099511627776 then (some ((⟨#[]⟩ : ByteArray), 0, 2)) else (if (wrap64 (bt155.1)) > (wrap64 ((a0.size : Int) - bt155.2.1)) then (some ((⟨#[]⟩ : ByteArray), 0, 3)) else (if 0 ≤ bt155.2.1 then (if bt155.2.1 ≤ (wrap64 (bt155.2.1 + (wrap64 (bt155.1)))) then (if (wrap64 (bt155.2.1 + (wrap64 (bt155.1)))) ≤ (a0.size : Int) then (some (a0.extract (bt155.2.1 : Int).toNat ((wrap64 (bt155.2.1 + (wrap64 (bt155.1)))) : Int).toNat, wrap64 (bt155.2.1 + (wrap64 (bt155.1))), 0)) else (none)) else (none)) else (none)))) else (some ((⟨#[]⟩ : ByteArray), 0, bt155.2.2)))
theorem weighlockref01_Untext.mono : ∀ a0 k, LeO (weighlockref01_Untext.f k a0) (weighlockref01_Untext.f (k + 1) a0) := by
 intro a0 k
 unfold weighlockref01_Untext.f
 repeat' first
   | (with_reducible exact weighlockref01_Unchain.mono _ _)
   | (with_reducible exact LeO.refl _)
   | (with_reducible exact LeO.none _)
   | (with_reducible refine LeO.ite ?_ ?_)
   | (with_reducible refine LeO.bind ?_ (fun _ => ?_))
   | exact weighlockref01_Unchain.mono _ _
   | exact LeO.none _
   | refine LeO.ite ?_ ?_
   | refine LeO.bind ?_ (fun _ => ?_)
def weighlockref01_Untext.T8 : Bool × List (List Nat × List Nat) := (true, [([], []), ([], []), ([1], [1]), ([], []), ([3], [3]), ([], []), ([5], [5]), ([6], [6]), ([4, 7], [4, 7]), ([0, 2, 8], [0, 2, 8]), ([], []), ([10], [10]), ([], []), ([12], [12]), ([13], [13]), ([11, 14], [11, 14]), ([9, 15], [9, 15]), ([16, 0, 1, 2, 3, 4, 5, 6, 7, 8, 9, 10, 11, 12, 13, 14, 15, 16], [16])])
def weighlockref01_Untext.B8 : List Nat := [0, 0, 2, 0, 8, 0, 32, 96, 248, 511, 0, 1024, 0, 4096, 12288, 31744, 65535, 131071]
theorem weighlockref01_Untext.tab8 : rtab .any (opsOf Try.f112 8) = weighlockref01_Untext.T8 := by kernel_rfl
theorem weighlockref01_Untext.bits8 : waitsOk weighlockref01_Untext.T8.2 weighlockref01_Untext.B8 = true := by kernel_rfl
set_option maxHeartbeats 8000000 in
set_option maxRecDepth 100000 in
theorem weighlockref01_Untext.calls (k : Nat) (a0 : ByteArray) (r1 : ByteArray) (r2 : Int) (r3 : Int) (w : World) (h : weighlockref01_Untext.f k a0 = some (r1, r2, r3)) :
  Calls Try.prog 112 #[.string a0] w fun e w' => e = .returned (.agg #[.string r1, .int .i64 r2, .int .i64 r3]) ∧ Below w.heap.size w w' := by
 have hu173 := Try.underlying173
 have hu176 := Try.underlying176
 have HB := Aside0.mk (Below.refl w.heap.size w)
 have H : ((weighlockref01_Unchain.f k a0).bind fun bt155 => (if bt155.2.2 = 0 then (if bt155.1 > 1099511627776 then (some ((⟨#[]⟩ : ByteArray), 0, 2)) else (if (wrap64 (bt155.1)) > (wrap64 ((a0.size : Int) - bt155.2.1)) then (some ((⟨#[]⟩ : ByteArray), 0, 3)) else (if 0 ≤ bt155.2.1 then (if bt155.2.1 ≤ (wrap64 (bt155.2.1 + (wrap64 (bt155.1)))) then (if (wrap64 (bt155.2.1 + (wrap64 (bt155.1)))) ≤ (a0.size : Int) then (some (a0.extract (bt155.2.1 : Int).toNat ((wrap64 (bt155.2.1 + (wrap64 (bt155.1)))) : Int).toNat, wrap64 (bt155.2.1 + (wrap64 (bt155.1))), 0)) else (none)) else (none)) else (none)))) else (some ((⟨#[]⟩ : ByteArray), 0, bt155.2.2)))) = some (r1, r2, r3) := h
 clear h
 replace H := Option.bind_eq_some_iff.mp H
 obtain ⟨⟨t155, t156, t157⟩, A20, H⟩ := H
 replace H : (if t157 = 0 then (if t155 > 1099511627776 then (some ((⟨#[]⟩ : ByteArray), 0, 2)) else (if (wrap64 (t155)) > (wrap64 ((a0.size : Int) - t156)) then (some ((⟨#[]⟩ : ByteArray), 0, 3)) else (if 0 ≤ t156 then (if t156 ≤ (wrap64 (t156 + (wrap64 (t155)))) then (if (wrap64 (t156 + (wrap64 (t155)))) ≤ (a0.size : Int) then (some (a0.extract (t156 : Int).toNat ((wrap64 (t156 + (wrap64 (t155)))) : Int).toNat, wrap64 (t156 + (wrap64 (t155))), 0)) else (none)) else (none)) else (none)))) else (some ((⟨#[]⟩ : ByteArray), 0, t157))) = some (r1, r2, r3) := H
 have A2 := Aside0.mk A20
 clear A20
 by_cases c3 : t157 = 0
 ·rw [if_pos c3] at H
  have c3b0 : (t157 == 0) = true := beq_iff_eq.mpr c3
  have c3b1 : (t157 != 0) = false := bne_eq_false_iff_eq.mpr c3
  clear c3
  by_cases c4 : t155 > 1099511627776
  ·rw [if_pos c4] at H
   have c4b0 : decide (1099511627776 < t155) = true := decide_eq_true c4
   clear c4
   simp only [Option.some.injEq, Prod.mk.injEq] at H
   obtain ⟨rfl, rfl, rfl⟩ := H
   go_enter Try.func112, Try.ntmps112
   go_wp2_with (first | ((with_reducible refine gate_dst (N := 2) rfl ?_); refine box_event ?hg (N := 2) ?hd (cs := #[.string (⟨#[]⟩ : ByteArray), .int .i64 0, .int .i64 0]) (t := 173) ?hr ?_; (case hd => rfl); (case hg => rfl); (case hr => first | (go_simp; done) | (go_simp; rfl)); intro gb154 hg w5 hbox hb; have n0_ := Aside0.mk (below_step (by repeat (first | (with_reducible first | exact HB.out | apply lA | apply lN | apply lD) | exact HB.out)) hb); have n1_ := Aside0.mk (hbox); have n2_ := Aside0.mk ((by rw [hg]; exact (below_size (by repeat (first | (with_reducible first | exact HB.out | apply lA | apply lN | apply lD) | exact HB.out))) : w.heap.size ≤ gb154)); have n3_ := Aside0.mk ((by rw [hg]; exact (below_size (by repeat (first | (with_reducible first | exact HB.out | apply lA | apply lN | apply lD) | exact HB.out))) : w.heap.size ≤ gb154)); clear HB; have HB := n0_; have BK154 := n1_; have GW154 := n2_; have GE154 := n3_; clear n0_ n1_ n2_ n3_; clear hb hbox hg) | ((with_reducible refine gate_callee (f := 113) rfl ?_); refine goesL_ (some 5) rfl rfl Try.func113 (by kernel_rfl) rfl #[.string a0] rfl (by (try simp only [List.map_toArray, List.map_cons, List.map_nil]); first | done | rfl | (simp only [List.length_drop, List.length_take]; rfl)) ?_; (with_reducible refine (weighlockref01_Unchain.calls k a0 t155 t156 t157 _ A2.out).mono ?_); rintro e w6 ⟨rfl, hb⟩; refine ⟨_, rfl, ?_⟩; have n0_ := Aside0.mk (bB (g := gb154) (o := .cells #[.string (⟨#[]⟩ : ByteArray), .int .i64 0, .int .i64 0] 173 (0, 0)) (by (with_reducible repeat first | apply bN | apply bD | apply bA); exact BK154.out) hb); have n1_ := Aside0.mk (below_step (by repeat (first | (with_reducible first | exact HB.out | apply lA | apply lN | apply lD | refine lS ?_ GE154.out) | exact HB.out)) hb); clear BK154; clear HB; have BK154 := n0_; have HB := n1_; clear n0_ n1_; (try clear hb); (try clear hb2); (try clear hk); (try clear hi)) | ((with_reducible refine gate_dst (N := 3) rfl ?_); refine box_event ?hg (N := 3) ?hd (cs := #[.int .u64 0, .int .i64 0, .int .i64 0]) (t := 176) ?hr ?_; (case hd => rfl); (case hg => rfl); (case hr => first | (go_simp; done) | (go_simp; rfl)); intro gb158 hg w7 hbox hb; have n0_ := Aside0.mk (bB (g := gb154) (o := .cells #[.string (⟨#[]⟩ : ByteArray), .int .i64 0, .int .i64 0] 173 (0, 0)) (by (with_reducible repeat first | apply bN | apply bD | apply bA); exact BK154.out) hb); have n1_ := Aside0.mk (below_step (by repeat (first | (with_reducible first | exact HB.out | apply lA | apply lN | apply lD | refine lS ?_ GE154.out) | exact HB.out)) hb); have n2_ := Aside0.mk (hbox); have n3_ := Aside0.mk ((by rw [hg]; exact (below_size (by repeat (first | (with_reducible first | exact HB.out | apply lA | apply lN | apply lD | refine lS ?_ GE154.out) | exact HB.out))) : w.heap.size ≤ gb158)); have n4_ := Aside0.mk ((by rw [hg]; exact (below_size (by repeat (first | (with_reducible first | exact HB.out | apply lA | apply lN | apply lD | refine lS ?_ GE154.out) | exact HB.out))) : w.heap.size ≤ gb158)); have n5_ := Aside0.mk ((by rw [hg]; exact Nat.ne_of_lt (blk_lt (g := gb154) (o := .cells #[.string (⟨#[]⟩ : ByteArray), .int .i64 0, .int .i64 0] 173 (0, 0)) (by (with_reducible repeat first | apply bN | apply bD | apply bA); exact BK154.out)) : gb154 ≠ gb158)); have n6_ := Aside0.mk ((by rw [hg]; exact Nat.ne_of_gt (blk_lt (g := gb154) (o := .cells #[.string (⟨#[]⟩ : ByteArray), .int .i64 0, .int .i64 0] 173 (0, 0)) (by (with_reducible repeat first | apply bN | apply bD | apply bA); exact BK154.out)) : gb158 ≠ gb154)); clear BK154; clear HB; have BK154 := n0_; have HB := n1_; have BK158 := n2_; have GW158 := n3_; have GE158 := n4_; have NB154_158 := n5_; have NB158_154 := n6_; clear n0_ n1_ n2_ n3_ n4_ n5_ n6_; clear hb hbox hg; have hnb8 := NB158_154.out; have hnc8 := NB154_158.out; have hcz9_0 : w7.cell? ⟨gb158, 0, none⟩ = some (.int .u64 0) := (bC BK158.out 0).trans rfl; have hcz9_1 : w7.cell? ⟨gb158, 1, none⟩ = some (.int .i64 0) := (bC BK158.out 1).trans rfl; have hcz9_2 : w7.cell? ⟨gb158, 2, none⟩ = some (.int .i64 0) := (bC BK158.out 2).trans rfl; have hfz9_0 := bF BK158.out 0; have hfz9_1 := bF BK158.out 1; have hfz9_2 := bF BK158.out 2; have hcz10_0 : w7.cell? ⟨gb154, 0, none⟩ = some (.string (⟨#[]⟩ : ByteArray)) := (bC BK154.out 0).trans rfl; have hcz10_1 : w7.cell? ⟨gb154, 1, none⟩ = some (.int .i64 0) := (bC BK154.out 1).trans rfl; have hcz10_2 : w7.cell? ⟨gb154, 2, none⟩ = some (.int .i64 0) := (bC BK154.out 2).trans rfl; have hfz10_0 := bF BK154.out 0; have hfz10_1 := bF BK154.out 1; have hfz10_2 := bF BK154.out 2))
   refine bodyPost_ret (results_cell_row rfl _ _ gb154 173 #[.string (⟨#[]⟩ : ByteArray), .int .i64 0, .int .i64 2] (0, 0) _ rfl (by (with_reducible repeat first | apply bN | apply bD | apply bA); refine bP (cs := #[.string (⟨#[]⟩ : ByteArray), .int .i64 0, .int .i64 0]) ?_ 2 _ rfl; (with_reducible repeat first | apply bN | apply bD | apply bA); refine bP (cs := #[.string (⟨#[]⟩ : ByteArray), .int .i64 0, .int .i64 0]) ?_ 1 _ rfl; (with_reducible repeat first | apply bN | apply bD | apply bA); refine bP (cs := #[.string (⟨#[]⟩ : ByteArray), .int .i64 0, .int .i64 0]) ?_ 0 _ rfl; (with_reducible repeat first | apply bN | apply bD | apply bA); refine bR ?_ NB154_158.out _; (with_reducible repeat first | apply bN | apply bD | apply bA); refine bR ?_ NB154_158.out _; (with_reducible repeat first | apply bN | apply bD | apply bA); refine bR ?_ NB154_158.out _; (with_reducible repeat first | apply bN | apply bD | apply bA); exact BK154.out) Try.underlying173 rfl (by kernel_rfl)) rfl ?_
   exact ⟨by first | rfl | (simp [errW_none, errW_some] <;> rfl) | (simp [*, errW_none, errW_some] <;> rfl), by repeat (first | (with_reducible first | exact HB.out | apply lA | apply lN | apply lD | refine lS ?_ GE154.out | refine lS ?_ GE158.out) | exact HB.out)⟩
  ·rw [if_neg c4] at H
   have c4b0 : decide (1099511627776 < t155) = false := decide_eq_false c4
   clear c4
   by_cases c11 : (wrap64 (t155)) > (wrap64 ((a0.size : Int) - t156))
   ·rw [if_pos c11] at H
    have c11b0 : decide ((wrap64 ((a0.size : Int) - t156)) < (wrap64 (t155))) = true := decide_eq_true c11
    clear c11
    simp only [Option.some.injEq, Prod.mk.injEq] at H
    obtain ⟨rfl, rfl, rfl⟩ := H
    go_enter Try.func112, Try.ntmps112
    go_wp2_with (first | ((with_reducible refine gate_dst (N := 2) rfl ?_); refine box_event ?hg (N := 2) ?hd (cs := #[.string (⟨#[]⟩ : ByteArray), .int .i64 0, .int .i64 0]) (t := 173) ?hr ?_; (case hd => rfl); (case hg => rfl); (case hr => first | (go_simp; done) | (go_simp; rfl)); intro gb154 hg w12 hbox hb; have n0_ := Aside0.mk (below_step (by repeat (first | (with_reducible first | exact HB.out | apply lA | apply lN | apply lD) | exact HB.out)) hb); have n1_ := Aside0.mk (hbox); have n2_ := Aside0.mk ((by rw [hg]; exact (below_size (by repeat (first | (with_reducible first | exact HB.out | apply lA | apply lN | apply lD) | exact HB.out))) : w.heap.size ≤ gb154)); have n3_ := Aside0.mk ((by rw [hg]; exact (below_size (by repeat (first | (with_reducible first | exact HB.out | apply lA | apply lN | apply lD) | exact HB.out))) : w.heap.size ≤ gb154)); clear HB; have HB := n0_; have BK154 := n1_; have GW154 := n2_; have GE154 := n3_; clear n0_ n1_ n2_ n3_; clear hb hbox hg) | ((with_reducible refine gate_callee (f := 113) rfl ?_); refine goesL_ (some 5) rfl rfl Try.func113 (by kernel_rfl) rfl #[.string a0] rfl (by (try simp only [List.map_toArray, List.map_cons, List.map_nil]); first | done | rfl | (simp only [List.length_drop, List.length_take]; rfl)) ?_; (with_reducible refine (weighlockref01_Unchain.calls k a0 t155 t156 t157 _ A2.out).mono ?_); rintro e w13 ⟨rfl, hb⟩; refine ⟨_, rfl, ?_⟩; have n0_ := Aside0.mk (bB (g := gb154) (o := .cells #[.string (⟨#[]⟩ : ByteArray), .int .i64 0, .int .i64 0] 173 (0, 0)) (by (with_reducible repeat first | apply bN | apply bD | apply bA); exact BK154.out) hb); have n1_ := Aside0.mk (below_step (by repeat (first | (with_reducible first | exact HB.out | apply lA | apply lN | apply lD | refine lS ?_ GE154.out) | exact HB.out)) hb); clear BK154; clear HB; have BK154 := n0_; have HB := n1_; clear n0_ n1_; (try clear hb); (try clear hb2); (try clear hk); (try clear hi)) | ((with_reducible refine gate_dst (N := 3) rfl ?_); refine box_event ?hg (N := 3) ?hd (cs := #[.int .u64 0, .int .i64 0, .int .i64 0]) (t := 176) ?hr ?_; (case hd => rfl); (case hg => rfl); (case hr => first | (go_simp; done) | (go_simp; rfl)); intro gb158 hg w14 hbox hb; have n0_ := Aside0.mk (bB (g := gb154) (o := .cells #[.string (⟨#[]⟩ : ByteArray), .int .i64 0, .int .i64 0] 173 (0, 0)) (by (with_reducible repeat first | apply bN | apply bD | apply bA); exact BK154.out) hb); have n1_ := Aside0.mk (below_step (by repeat (first | (with_reducible first | exact HB.out | apply lA | apply lN | apply lD | refine lS ?_ GE154.out) | exact HB.out)) hb); have n2_ := Aside0.mk (hbox); have n3_ := Aside0.mk ((by rw [hg]; exact (below_size (by repeat (first | (with_reducible first | exact HB.out | apply lA | apply lN | apply lD | refine lS ?_ GE154.out) | exact HB.out))) : w.heap.size ≤ gb158)); have n4_ := Aside0.mk ((by rw [hg]; exact (below_size (by repeat (first | (with_reducible first | exact HB.out | apply lA | apply lN | apply lD | refine lS ?_ GE154.out) | exact HB.out))) : w.heap.size ≤ gb158)); have n5_ := Aside0.mk ((by rw [hg]; exact Nat.ne_of_lt (blk_lt (g := gb154) (o := .cells #[.string (⟨#[]⟩ : ByteArray), .int .i64 0, .int .i64 0] 173 (0, 0)) (by (with_reducible repeat first | apply bN | apply bD | apply bA); exact BK154.out)) : gb154 ≠ gb158)); have n6_ := Aside0.mk ((by rw [hg]; exact Nat.ne_of_gt (blk_lt (g := gb154) (o := .cells #[.string (⟨#[]⟩ : ByteArray), .int .i64 0, .int .i64 0] 173 (0, 0)) (by (with_reducible repeat first | apply bN | apply bD | apply bA); exact BK154.out)) : gb158 ≠ gb154)); clear BK154; clear HB; have BK154 := n0_; have HB := n1_; have BK158 := n2_; have GW158 := n3_; have GE158 := n4_; have NB154_158 := n5_; have NB158_154 := n6_; clear n0_ n1_ n2_ n3_ n4_ n5_ n6_; clear hb hbox hg; have hnb15 := NB158_154.out; have hnc15 := NB154_158.out; have hcz16_0 : w14.cell? ⟨gb158, 0, none⟩ = some (.int .u64 0) := (bC BK158.out 0).trans rfl; have hcz16_1 : w14.cell? ⟨gb158, 1, none⟩ = some (.int .i64 0) := (bC BK158.out 1).trans rfl; have hcz16_2 : w14.cell? ⟨gb158, 2, none⟩ = some (.int .i64 0) := (bC BK158.out 2).trans rfl; have hfz16_0 := bF BK158.out 0; have hfz16_1 := bF BK158.out 1; have hfz16_2 := bF BK158.out 2; have hcz17_0 : w14.cell? ⟨gb154, 0, none⟩ = some (.string (⟨#[]⟩ : ByteArray)) := (bC BK154.out 0).trans rfl; have hcz17_1 : w14.cell? ⟨gb154, 1, none⟩ = some (.int .i64 0) := (bC BK154.out 1).trans rfl; have hcz17_2 : w14.cell? ⟨gb154, 2, none⟩ = some (.int .i64 0) := (bC BK154.out 2).trans rfl; have hfz17_0 := bF BK154.out 0; have hfz17_1 := bF BK154.out 1; have hfz17_2 := bF BK154.out 2))
    refine bodyPost_ret (results_cell_row rfl _ _ gb154 173 #[.string (⟨#[]⟩ : ByteArray), .int .i64 0, .int .i64 3] (0, 0) _ rfl (by (with_reducible repeat first | apply bN | apply bD | apply bA); refine bP (cs := #[.string (⟨#[]⟩ : ByteArray), .int .i64 0, .int .i64 0]) ?_ 2 _ rfl; (with_reducible repeat first | apply bN | apply bD | apply bA); refine bP (cs := #[.string (⟨#[]⟩ : ByteArray), .int .i64 0, .int .i64 0]) ?_ 1 _ rfl; (with_reducible repeat first | apply bN | apply bD | apply bA); refine bP (cs := #[.string (⟨#[]⟩ : ByteArray), .int .i64 0, .int .i64 0]) ?_ 0 _ rfl; (with_reducible repeat first | apply bN | apply bD | apply bA); refine bR ?_ NB154_158.out _; (with_reducible repeat first | apply bN | apply bD | apply bA); refine bR ?_ NB154_158.out _; (with_reducible repeat first | apply bN | apply bD | apply bA); refine bR ?_ NB154_158.out _; (with_reducible repeat first | apply bN | apply bD | apply bA); exact BK154.out) Try.underlying173 rfl (by kernel_rfl)) rfl ?_
    exact ⟨by first | rfl | (simp [errW_none, errW_some] <;> rfl) | (simp [*, errW_none, errW_some] <;> rfl), by repeat (first | (with_reducible first | exact HB.out | apply lA | apply lN | apply lD | refine lS ?_ GE154.out | refine lS ?_ GE158.out) | exact HB.out)⟩
   ·rw [if_neg c11] at H
    have c11b0 : decide ((wrap64 ((a0.size : Int) - t156)) < (wrap64 (t155))) = false := decide_eq_false c11
    clear c11
    by_cases c18 : 0 ≤ t156
    ·rw [if_pos c18] at H
     have c18b0 := eq_true c18
     have c18b1 : decide (0 ≤ t156) = true := decide_eq_true c18
     clear c18
     by_cases c19 : t156 ≤ (wrap64 (t156 + (wrap64 (t155))))
     ·rw [if_pos c19] at H
      have c19b0 := eq_true c19
      have c19b1 : decide (t156 ≤ (wrap64 (t156 + (wrap64 (t155))))) = true := decide_eq_true c19
      by_cases c20 : (wrap64 (t156 + (wrap64 (t155)))) ≤ (a0.size : Int)
      ·rw [if_pos c20] at H
       have c20b0 := eq_true c20
       have c20b1 : decide ((wrap64 (t156 + (wrap64 (t155)))) ≤ (a0.size : Int)) = true := decide_eq_true c20
       simp only [Option.some.injEq, Prod.mk.injEq] at H
       obtain ⟨rfl, rfl, rfl⟩ := H
       go_enter Try.func112, Try.ntmps112
       try go_wp2_with (first | ((with_reducible refine gate_dst (N := 2) rfl ?_); refine box_event ?hg (N := 2) ?hd (cs := #[.string (⟨#[]⟩ : ByteArray), .int .i64 0, .int .i64 0]) (t := 173) ?hr ?_; (case hd => rfl); (case hg => rfl); (case hr => first | (go_simp; done) | (go_simp; rfl)); intro gb154 hg w21 hbox hb; have n0_ := Aside0.mk (below_step (by repeat (first | (with_reducible first | exact HB.out | apply lA | apply lN | apply lD) | exact HB.out)) hb); have n1_ := Aside0.mk (hbox); have n2_ := Aside0.mk ((by rw [hg]; exact (below_size (by repeat (first | (with_reducible first | exact HB.out | apply lA | apply lN | apply lD) | exact HB.out))) : w.heap.size ≤ gb154)); have n3_ := Aside0.mk ((by rw [hg]; exact (below_size (by repeat (first | (with_reducible first | exact HB.out | apply lA | apply lN | apply lD) | exact HB.out))) : w.heap.size ≤ gb154)); clear HB; have HB := n0_; have BK154 := n1_; have GW154 := n2_; have GE154 := n3_; clear n0_ n1_ n2_ n3_; clear hb hbox hg) | ((with_reducible refine gate_callee (f := 113) rfl ?_); refine goesL_ (some 5) rfl rfl Try.func113 (by kernel_rfl) rfl #[.string a0] rfl (by (try simp only [List.map_toArray, List.map_cons, List.map_nil]); first | done | rfl | (simp only [List.length_drop, List.length_take]; rfl)) ?_; (with_reducible refine (weighlockref01_Unchain.calls k a0 t155 t156 t157 _ A2.out).mono ?_); rintro e w22 ⟨rfl, hb⟩; refine ⟨_, rfl, ?_⟩; have n0_ := Aside0.mk (bB (g := gb154) (o := .cells #[.string (⟨#[]⟩ : ByteArray), .int .i64 0, .int .i64 0] 173 (0, 0)) (by (with_reducible repeat first | apply bN | apply bD | apply bA); exact BK154.out) hb); have n1_ := Aside0.mk (below_step (by repeat (first | (with_reducible first | exact HB.out | apply lA | apply lN | apply lD | refine lS ?_ GE154.out) | exact HB.out)) hb); clear BK154; clear HB; have BK154 := n0_; have HB := n1_; clear n0_ n1_; (try clear hb); (try clear hb2); (try clear hk); (try clear hi)) | ((with_reducible refine gate_dst (N := 3) rfl ?_); refine box_event ?hg (N := 3) ?hd (cs := #[.int .u64 0, .int .i64 0, .int .i64 0]) (t := 176) ?hr ?_; (case hd => rfl); (case hg => rfl); (case hr => first | (go_simp; done) | (go_simp; rfl)); intro gb158 hg w23 hbox hb; have n0_ := Aside0.mk (bB (g := gb154) (o := .cells #[.string (⟨#[]⟩ : ByteArray), .int .i64 0, .int .i64 0] 173 (0, 0)) (by (with_reducible repeat first | apply bN | apply bD | apply bA); exact BK154.out) hb); have n1_ := Aside0.mk (below_step (by repeat (first | (with_reducible first | exact HB.out | apply lA | apply lN | apply lD | refine lS ?_ GE154.out) | exact HB.out)) hb); have n2_ := Aside0.mk (hbox); have n3_ := Aside0.mk ((by rw [hg]; exact (below_size (by repeat (first | (with_reducible first | exact HB.out | apply lA | apply lN | apply lD | refine lS ?_ GE154.out) | exact HB.out))) : w.heap.size ≤ gb158)); have n4_ := Aside0.mk ((by rw [hg]; exact (below_size (by repeat (first | (with_reducible first | exact HB.out | apply lA | apply lN | apply lD | refine lS ?_ GE154.out) | exact HB.out))) : w.heap.size ≤ gb158)); have n5_ := Aside0.mk ((by rw [hg]; exact Nat.ne_of_lt (blk_lt (g := gb154) (o := .cells #[.string (⟨#[]⟩ : ByteArray), .int .i64 0, .int .i64 0] 173 (0, 0)) (by (with_reducible repeat first | apply bN | apply bD | apply bA); exact BK154.out)) : gb154 ≠ gb158)); have n6_ := Aside0.mk ((by rw [hg]; exact Nat.ne_of_gt (blk_lt (g := gb154) (o := .cells #[.string (⟨#[]⟩ : ByteArray), .int .i64 0, .int .i64 0] 173 (0, 0)) (by (with_reducible repeat first | apply bN | apply bD | apply bA); exact BK154.out)) : gb158 ≠ gb154)); clear BK154; clear HB; have BK154 := n0_; have HB := n1_; have BK158 := n2_; have GW158 := n3_; have GE158 := n4_; have NB154_158 := n5_; have NB158_154 := n6_; clear n0_ n1_ n2_ n3_ n4_ n5_ n6_; clear hb hbox hg; have hnb24 := NB158_154.out; have hnc24 := NB154_158.out; have hcz25_0 : w23.cell? ⟨gb158, 0, none⟩ = some (.int .u64 0) := (bC BK158.out 0).trans rfl; have hcz25_1 : w23.cell? ⟨gb158, 1, none⟩ = some (.int .i64 0) := (bC BK158.out 1).trans rfl; have hcz25_2 : w23.cell? ⟨gb158, 2, none⟩ = some (.int .i64 0) := (bC BK158.out 2).trans rfl; have hfz25_0 := bF BK158.out 0; have hfz25_1 := bF BK158.out 1; have hfz25_2 := bF BK158.out 2))
       have n0_ : Aside0 ((((w23.setCell ⟨gb158, 0, none⟩ (.int .u64 t155)).setCell ⟨gb158, 1, none⟩ (.int .i64 t156)).setCell ⟨gb158, 2, none⟩ (.int .i64 t157)).heap[gb154]? = some (.cells #[.string (⟨#[]⟩ : ByteArray), .int .i64 0, .int .i64 0] 173 (0, 0))) := ⟨by (with_reducible repeat first | apply bN | apply bD | apply bA); refine bR ?_ NB154_158.out _; (with_reducible repeat first | apply bN | apply bD | apply bA); refine bR ?_ NB154_158.out _; (with_reducible repeat first | apply bN | apply bD | apply bA); refine bR ?_ NB154_158.out _; (with_reducible repeat first | apply bN | apply bD | apply bA); exact BK154.out⟩
       have n1_ : Aside0 ((((w23.setCell ⟨gb158, 0, none⟩ (.int .u64 t155)).setCell ⟨gb158, 1, none⟩ (.int .i64 t156)).setCell ⟨gb158, 2, none⟩ (.int .i64 t157)).heap[gb158]? = some (.cells #[.int .u64 t155, .int .i64 t156, .int .i64 t157] 176 (0, 0))) := ⟨by (with_reducible repeat first | apply bN | apply bD | apply bA); refine bP (cs := #[.int .u64 t155, .int .i64 t156, .int .i64 0]) ?_ 2 _ rfl; (with_reducible repeat first | apply bN | apply bD | apply bA); refine bP (cs := #[.int .u64 t155, .int .i64 0, .int .i64 0]) ?_ 1 _ rfl; (with_reducible repeat first | apply bN | apply bD | apply bA); refine bP (cs := #[.int .u64 0, .int .i64 0, .int .i64 0]) ?_ 0 _ rfl; (with_reducible repeat first | apply bN | apply bD | apply bA); exact BK158.out⟩
       have n2_ : Aside0 (Below w.heap.size w (((w23.setCell ⟨gb158, 0, none⟩ (.int .u64 t155)).setCell ⟨gb158, 1, none⟩ (.int .i64 t156)).setCell ⟨gb158, 2, none⟩ (.int .i64 t157))) := ⟨by repeat (first | (with_reducible first | exact HB.out | apply lA | apply lN | apply lD | refine lS ?_ GE154.out | refine lS ?_ GE158.out) | exact HB.out)⟩
       (try clear BK154)
       (try clear BK158)
       (try clear HB)
       generalize (((w23.setCell ⟨gb158, 0, none⟩ (.int .u64 t155)).setCell ⟨gb158, 1, none⟩ (.int .i64 t156)).setCell ⟨gb158, 2, none⟩ (.int .i64 t157)) = w26 at n0_ n1_ n2_ ⊢
       have BK154 := n0_
       have BK158 := n1_
       have HB := n2_
       clear n0_ n1_ n2_
       have n0_ := Aside0.mk (bD BK154.out)
       have n1_ := Aside0.mk (bD BK158.out)
       have n2_ := Aside0.mk (lD HB.out)
       clear BK154
       clear BK158
       clear HB
       have BK154 := n0_
       have BK158 := n1_
       have HB := n2_
       clear n0_ n1_ n2_
       refine start_ (n := 18) (S := fun w' => w'.cell? ⟨gb158, 0, none⟩ = some (.int .u64 t155) ∧ w'.cell? ⟨gb158, 1, none⟩ = some (.int .i64 t156) ∧ w'.cell? ⟨gb158, 2, none⟩ = some (.int .i64 t157)) (ds := []) #[false, false, false, false, false, false, false, false, false, false, false, false, false, false, false, false, false, false] (by kernel_rfl) rfl rfl ⟨(bC BK158.out 0).trans rfl, (bC BK158.out 1).trans rfl, (bC BK158.out 2).trans rfl⟩ (fun hHeld => ?_); refine with_tabW weighlockref01_Untext.tab8 weighlockref01_Untext.bits8 (fun HT_ HW_ => ?_)
       generalize w26.drew = w27 at BK154 BK158 HB hHeld ⊢
       refine pure_ (i := 0) (N := some 26) (v := ?_) (a' := ?_) #[true, false, false, false, false, false, false, false, false, false, false, false, false, false, false, false, false, false] rfl rfl (any_of HT_.out (by kernel_rfl)) (fun _ _ _ h => h) (Or.inl ⟨by rfl, ?_⟩) ?_ ?_
       rotate_left
       ·intro w'
        go_simp
        with_reducible rfl
       rotate_left
       ·simp only [Act.put, List.setIfInBounds_toArray, List.set_cons_zero, List.set_cons_succ, i64_w, i32_w]
        rfl
       refine pure_ (i := 1) (N := some 27) (v := ?_) (a' := ?_) #[true, true, false, false, false, false, false, false, false, false, false, false, false, false, false, false, false, false] rfl rfl (any_of HT_.out (by kernel_rfl)) (fun _ _ _ h => h) (Or.inl ⟨by rfl, ?_⟩) ?_ ?_
       rotate_left
       ·intro w'
        go_simp
        with_reducible rfl
       rotate_left
       ·simp only [Act.put, List.setIfInBounds_toArray, List.set_cons_zero, List.set_cons_succ, i64_w, i32_w]
        rfl
       refine pure_ (i := 3) (N := some 29) (v := ?_) (a' := ?_) #[true, true, false, true, false, false, false, false, false, false, false, false, false, false, false, false, false, false] rfl rfl (any_of HT_.out (by kernel_rfl)) (fun _ _ _ h => h) (Or.inl ⟨by rfl, ?_⟩) ?_ ?_
       rotate_left
       ·intro w'
        go_simp
        with_reducible rfl
       rotate_left
       ·simp only [Act.put, List.setIfInBounds_toArray, List.set_cons_zero, List.set_cons_succ, i64_w, i32_w]
        rfl
       refine pure_ (i := 5) (N := some 31) (v := ?_) (a' := ?_) #[true, true, false, true, false, true, false, false, false, false, false, false, false, false, false, false, false, false] rfl rfl (any_of HT_.out (by kernel_rfl)) (fun _ _ _ h => h) (Or.inl ⟨by rfl, ?_⟩) ?_ ?_
       rotate_left
       ·intro w'
        go_simp
        with_reducible rfl
       rotate_left
       ·simp only [Act.put, List.setIfInBounds_toArray, List.set_cons_zero, List.set_cons_succ, i64_w, i32_w]
        rfl
       refine pure_ (i := 10) (N := some 36) (v := ?_) (a' := ?_) #[true, true, false, true, false, true, false, false, false, false, true, false, false, false, false, false, false, false] rfl rfl (any_of HT_.out (by kernel_rfl)) (fun _ _ _ h => h) (Or.inl ⟨by rfl, ?_⟩) ?_ ?_
       rotate_left
       ·intro w'
        go_simp
        with_reducible rfl
       rotate_left
       ·simp only [Act.put, List.setIfInBounds_toArray, List.set_cons_zero, List.set_cons_succ, i64_w, i32_w]
        rfl
       refine pure_ (i := 12) (N := some 38) (v := ?_) (a' := ?_) #[true, true, false, true, false, true, false, false, false, false, true, false, true, false, false, false, false, false] rfl rfl (any_of HT_.out (by kernel_rfl)) (fun _ _ _ h => h) (Or.inl ⟨by rfl, ?_⟩) ?_ ?_
       rotate_left
       ·intro w'
        go_simp
        with_reducible rfl
       rotate_left
       ·simp only [Act.put, List.setIfInBounds_toArray, List.set_cons_zero, List.set_cons_succ, i64_w, i32_w]
        rfl
       refine take_ (i := 2) (N := some 28) (v := ?_) (a' := ?_) #[true, true, true, true, false, true, false, false, false, false, true, false, true, false, false, false, false, false] rfl rfl (take_ofW HT_.out HW_.out (by kernel_rfl)) (fun _ _ _ h => h) (Or.inl ⟨by rfl, ?_⟩) hHeld ?_ ?_
       rotate_left
       ·rintro w' ⟨s0, s1, s2⟩
        go_simp
        with_reducible rfl
       rotate_left
       ·simp only [Act.put, List.setIfInBounds_toArray, List.set_cons_zero, List.set_cons_succ, i64_w, i32_w]
        rfl
       refine take_ (i := 4) (N := some 30) (v := ?_) (a' := ?_) #[true, true, true, true, true, true, false, false, false, false, true, false, true, false, false, false, false, false] rfl rfl (take_ofW HT_.out HW_.out (by kernel_rfl)) (fun _ _ _ h => h) (Or.inl ⟨by rfl, ?_⟩) hHeld ?_ ?_
       rotate_left
       ·rintro w' ⟨s0, s1, s2⟩
        go_simp
        with_reducible rfl
       rotate_left
       ·simp only [Act.put, List.setIfInBounds_toArray, List.set_cons_zero, List.set_cons_succ, i64_w, i32_w]
        rfl
       refine take_ (i := 6) (N := some 32) (v := ?_) (a' := ?_) #[true, true, true, true, true, true, true, false, false, false, true, false, true, false, false, false, false, false] rfl rfl (take_ofW HT_.out HW_.out (by kernel_rfl)) (fun _ _ _ h => h) (Or.inl ⟨by rfl, ?_⟩) hHeld ?_ ?_
       rotate_left
       ·rintro w' ⟨s0, s1, s2⟩
        go_simp
        with_reducible rfl
       rotate_left
       ·simp only [Act.put, List.setIfInBounds_toArray, List.set_cons_zero, List.set_cons_succ, i64_w, i32_w]
        rfl
       refine pure_ (i := 7) (N := some 33) (v := ?_) (a' := ?_) #[true, true, true, true, true, true, true, true, false, false, true, false, true, false, false, false, false, false] rfl rfl (any_of HT_.out (by kernel_rfl)) (fun _ _ _ h => h) (Or.inl ⟨by rfl, ?_⟩) ?_ ?_
       rotate_left
       ·intro w'
        go_simp
        with_reducible rfl
       rotate_left
       ·simp only [Act.put, List.setIfInBounds_toArray, List.set_cons_zero, List.set_cons_succ, i64_w, i32_w]
        rfl
       refine pure_ (i := 8) (N := some 34) (v := ?_) (a' := ?_) #[true, true, true, true, true, true, true, true, true, false, true, false, true, false, false, false, false, false] rfl rfl (any_of HT_.out (by kernel_rfl)) (fun _ _ _ h => h) (Or.inl ⟨by rfl, ?_⟩) ?_ ?_
       rotate_left
       ·intro w'
        go_simp
        with_reducible rfl
       rotate_left
       ·simp only [Act.put, List.setIfInBounds_toArray, List.set_cons_zero, List.set_cons_succ, i64_w, i32_w]
        rfl
       refine pure_ (i := 9) (N := some 35) (v := ?_) (a' := ?_) #[true, true, true, true, true, true, true, true, true, true, true, false, true, false, false, false, false, false] rfl rfl (any_of HT_.out (by kernel_rfl)) (fun _ _ _ h => h) (Or.inl ⟨by rfl, ?_⟩) ?_ ?_
       rotate_left
       ·intro w'
        go_simp
        with_reducible rfl
       rotate_left
       ·simp only [Act.put, List.setIfInBounds_toArray, List.set_cons_zero, List.set_cons_succ, i64_w, i32_w]
        rfl
       refine take_ (i := 11) (N := some 37) (v := ?_) (a' := ?_) #[true, true, true, true, true, true, true, true, true, true, true, true, true, false, false, false, false, false] rfl rfl (take_ofW HT_.out HW_.out (by kernel_rfl)) (fun _ _ _ h => h) (Or.inl ⟨by rfl, ?_⟩) hHeld ?_ ?_
       rotate_left
       ·rintro w' ⟨s0, s1, s2⟩
        go_simp
        with_reducible rfl
       rotate_left
       ·simp only [Act.put, List.setIfInBounds_toArray, List.set_cons_zero, List.set_cons_succ, i64_w, i32_w]
        rfl
       refine take_ (i := 13) (N := some 39) (v := ?_) (a' := ?_) #[true, true, true, true, true, true, true, true, true, true, true, true, true, true, false, false, false, false] rfl rfl (take_ofW HT_.out HW_.out (by kernel_rfl)) (fun _ _ _ h => h) (Or.inl ⟨by rfl, ?_⟩) hHeld ?_ ?_
       rotate_left
       ·rintro w' ⟨s0, s1, s2⟩
        go_simp
        with_reducible rfl
       rotate_left
       ·simp only [Act.put, List.setIfInBounds_toArray, List.set_cons_zero, List.set_cons_succ, i64_w, i32_w]
        rfl
       refine pure_ (i := 14) (N := some 40) (v := ?_) (a' := ?_) #[true, true, true, true, true, true, true, true, true, true, true, true, true, true, true, false, false, false] rfl rfl (any_of HT_.out (by kernel_rfl)) (fun _ _ _ h => h) (Or.inl ⟨by rfl, ?_⟩) ?_ ?_
       rotate_left
       ·intro w'
        go_simp
        with_reducible rfl
       rotate_left
       ·simp only [Act.put, List.setIfInBounds_toArray, List.set_cons_zero, List.set_cons_succ, i64_w, i32_w]
        rfl
       refine pure_ (i := 15) (N := some 41) (v := ?_) (a' := ?_) #[true, true, true, true, true, true, true, true, true, true, true, true, true, true, true, true, false, false] rfl rfl (any_of HT_.out (by kernel_rfl)) (fun _ _ _ h => h) (Or.inl ⟨by rfl, ?_⟩) ?_ ?_
       rotate_left
       ·intro w'
        go_simp
        with_reducible rfl
       rotate_left
       ·simp only [Act.put, List.setIfInBounds_toArray, List.set_cons_zero, List.set_cons_succ, i64_w, i32_w]
        rfl
       refine pure_ (i := 16) (N := some 42) (v := ?_) (a' := ?_) #[true, true, true, true, true, true, true, true, true, true, true, true, true, true, true, true, true, false] rfl rfl (any_of HT_.out (by kernel_rfl)) (fun _ _ _ h => h) (Or.inl ⟨by rfl, ?_⟩) ?_ ?_
       rotate_left
       ·intro w'
        go_simp
        with_reducible rfl
       rotate_left
       ·simp only [Act.put, List.setIfInBounds_toArray, List.set_cons_zero, List.set_cons_succ, i64_w, i32_w]
        rfl
       refine one_ (i := 17) (N := none) #[true, true, true, true, true, true, true, true, true, true, true, true, true, true, true, true, true, true] rfl rfl (one_of HT_.out (by kernel_rfl)) (by decide) (fun K hK => ?_)
       have hs28 : w27.cell? ⟨gb154, 0, none⟩ = some (.string (⟨#[]⟩ : ByteArray)) := (bC BK154.out 0).trans rfl
       have hfs28 := bF BK154.out 0
       have hns28_1 := NB158_154.out
       have hms28_1 := NB154_158.out
       have hs29 : w27.cell? ⟨gb154, 1, none⟩ = some (.int .i64 0) := (bC BK154.out 1).trans rfl
       have hfs29 := bF BK154.out 1
       have hns29_1 := NB158_154.out
       have hms29_1 := NB154_158.out
       have hs30 : w27.cell? ⟨gb154, 2, none⟩ = some (.int .i64 0) := (bC BK154.out 2).trans rfl
       have hfs30 := bF BK154.out 2
       have hns30_1 := NB158_154.out
       have hms30_1 := NB154_158.out
       refine skip_ (w1 := ?_) (by rfl) rfl ?_ ?_
       rotate_left
       ·go_simp
        rfl
       refine hK.out _ _ ⟨((cell_far (p := ⟨gb154, _, none⟩) NB158_154.out _).trans (((cell_far (p := ⟨gb154, _, none⟩) NB158_154.out _).trans (((cell_far (p := ⟨gb154, _, none⟩) NB158_154.out _).trans (hHeld.1)))))), ((cell_far (p := ⟨gb154, _, none⟩) NB158_154.out _).trans (((cell_far (p := ⟨gb154, _, none⟩) NB158_154.out _).trans (((cell_far (p := ⟨gb154, _, none⟩) NB158_154.out _).trans (hHeld.2.1)))))), ((cell_far (p := ⟨gb154, _, none⟩) NB158_154.out _).trans (((cell_far (p := ⟨gb154, _, none⟩) NB158_154.out _).trans (((cell_far (p := ⟨gb154, _, none⟩) NB158_154.out _).trans (hHeld.2.2))))))⟩ (fun hHeld => ?_)
       clear hK K
       refine done_ (done_of HT_.out (by kernel_rfl)) ?_
       try go_wp2
       refine bodyPost_ret (results_cell_row rfl _ _ gb154 173 #[.string (a0.extract (t156 : Int).toNat ((wrap64 (t156 + (wrap64 (t155)))) : Int).toNat), .int .i64 (wrap64 (t156 + (wrap64 (t155)))), .int .i64 0] (0, 0) _ rfl (by (with_reducible repeat first | apply bN | apply bD | apply bA); refine bP (cs := #[.string (a0.extract (t156 : Int).toNat ((wrap64 (t156 + (wrap64 (t155)))) : Int).toNat), .int .i64 (wrap64 (t156 + (wrap64 (t155)))), .int .i64 0]) ?_ 2 _ rfl; (with_reducible repeat first | apply bN | apply bD | apply bA); refine bP (cs := #[.string (a0.extract (t156 : Int).toNat ((wrap64 (t156 + (wrap64 (t155)))) : Int).toNat), .int .i64 0, .int .i64 0]) ?_ 1 _ rfl; (with_reducible repeat first | apply bN | apply bD | apply bA); refine bP (cs := #[.string (⟨#[]⟩ : ByteArray), .int .i64 0, .int .i64 0]) ?_ 0 _ rfl; (with_reducible repeat first | apply bN | apply bD | apply bA); exact BK154.out) Try.underlying173 rfl (by kernel_rfl)) rfl ?_
       exact ⟨by first | rfl | (simp [errW_none, errW_some] <;> rfl) | (simp [*, errW_none, errW_some] <;> rfl), by repeat (first | (with_reducible first | exact HB.out | apply lA | apply lN | apply lD | refine lS ?_ GE154.out | refine lS ?_ GE158.out) | exact HB.out)⟩
      ·rw [if_neg c20] at H
       exact absurd H (by simp)
     ·rw [if_neg c19] at H
      exact absurd H (by simp)
    ·rw [if_neg c18] at H
     exact absurd H (by simp)
 ·rw [if_neg c3] at H
  have c3b0 : (t157 == 0) = false := beq_eq_false_iff_ne.mpr c3
  have c3b1 : (t157 != 0) = true := bne_iff_ne.mpr c3
  simp only [Option.some.injEq, Prod.mk.injEq] at H
  obtain ⟨rfl, rfl, rfl⟩ := H
  go_enter Try.func112, Try.ntmps112
  go_wp2_with (first | ((with_reducible refine gate_dst (N := 2) rfl ?_); refine box_event ?hg (N := 2) ?hd (cs := #[.string (⟨#[]⟩ : ByteArray), .int .i64 0, .int .i64 0]) (t := 173) ?hr ?_; (case hd => rfl); (case hg => rfl); (case hr => first | (go_simp; done) | (go_simp; rfl)); intro gb154 hg w31 hbox hb; have n0_ := Aside0.mk (below_step (by repeat (first | (with_reducible first | exact HB.out | apply lA | apply lN | apply lD) | exact HB.out)) hb); have n1_ := Aside0.mk (hbox); have n2_ := Aside0.mk ((by rw [hg]; exact (below_size (by repeat (first | (with_reducible first | exact HB.out | apply lA | apply lN | apply lD) | exact HB.out))) : w.heap.size ≤ gb154)); have n3_ := Aside0.mk ((by rw [hg]; exact (below_size (by repeat (first | (with_reducible first | exact HB.out | apply lA | apply lN | apply lD) | exact HB.out))) : w.heap.size ≤ gb154)); clear HB; have HB := n0_; have BK154 := n1_; have GW154 := n2_; have GE154 := n3_; clear n0_ n1_ n2_ n3_; clear hb hbox hg) | ((with_reducible refine gate_callee (f := 113) rfl ?_); refine goesL_ (some 5) rfl rfl Try.func113 (by kernel_rfl) rfl #[.string a0] rfl (by (try simp only [List.map_toArray, List.map_cons, List.map_nil]); first | done | rfl | (simp only [List.length_drop, List.length_take]; rfl)) ?_; (with_reducible refine (weighlockref01_Unchain.calls k a0 t155 t156 t157 _ A2.out).mono ?_); rintro e w32 ⟨rfl, hb⟩; refine ⟨_, rfl, ?_⟩; have n0_ := Aside0.mk (bB (g := gb154) (o := .cells #[.string (⟨#[]⟩ : ByteArray), .int .i64 0, .int .i64 0] 173 (0, 0)) (by (with_reducible repeat first | apply bN | apply bD | apply bA); exact BK154.out) hb); have n1_ := Aside0.mk (below_step (by repeat (first | (with_reducible first | exact HB.out | apply lA | apply lN | apply lD | refine lS ?_ GE154.out) | exact HB.out)) hb); clear BK154; clear HB; have BK154 := n0_; have HB := n1_; clear n0_ n1_; (try clear hb); (try clear hb2); (try clear hk); (try clear hi)) | ((with_reducible refine gate_dst (N := 3) rfl ?_); refine box_event ?hg (N := 3) ?hd (cs := #[.int .u64 0, .int .i64 0, .int .i64 0]) (t := 176) ?hr ?_; (case hd => rfl); (case hg => rfl); (case hr => first | (go_simp; done) | (go_simp; rfl)); intro gb158 hg w33 hbox hb; have n0_ := Aside0.mk (bB (g := gb154) (o := .cells #[.string (⟨#[]⟩ : ByteArray), .int .i64 0, .int .i64 0] 173 (0, 0)) (by (with_reducible repeat first | apply bN | apply bD | apply bA); exact BK154.out) hb); have n1_ := Aside0.mk (below_step (by repeat (first | (with_reducible first | exact HB.out | apply lA | apply lN | apply lD | refine lS ?_ GE154.out) | exact HB.out)) hb); have n2_ := Aside0.mk (hbox); have n3_ := Aside0.mk ((by rw [hg]; exact (below_size (by repeat (first | (with_reducible first | exact HB.out | apply lA | apply lN | apply lD | refine lS ?_ GE154.out) | exact HB.out))) : w.heap.size ≤ gb158)); have n4_ := Aside0.mk ((by rw [hg]; exact (below_size (by repeat (first | (with_reducible first | exact HB.out | apply lA | apply lN | apply lD | refine lS ?_ GE154.out) | exact HB.out))) : w.heap.size ≤ gb158)); have n5_ := Aside0.mk ((by rw [hg]; exact Nat.ne_of_lt (blk_lt (g := gb154) (o := .cells #[.string (⟨#[]⟩ : ByteArray), .int .i64 0, .int .i64 0] 173 (0, 0)) (by (with_reducible repeat first | apply bN | apply bD | apply bA); exact BK154.out)) : gb154 ≠ gb158)); have n6_ := Aside0.mk ((by rw [hg]; exact Nat.ne_of_gt (blk_lt (g := gb154) (o := .cells #[.string (⟨#[]⟩ : ByteArray), .int .i64 0, .int .i64 0] 173 (0, 0)) (by (with_reducible repeat first | apply bN | apply bD | apply bA); exact BK154.out)) : gb158 ≠ gb154)); clear BK154; clear HB; have BK154 := n0_; have HB := n1_; have BK158 := n2_; have GW158 := n3_; have GE158 := n4_; have NB154_158 := n5_; have NB158_154 := n6_; clear n0_ n1_ n2_ n3_ n4_ n5_ n6_; clear hb hbox hg; have hnb34 := NB158_154.out; have hnc34 := NB154_158.out; have hcz35_0 : w33.cell? ⟨gb158, 0, none⟩ = some (.int .u64 0) := (bC BK158.out 0).trans rfl; have hcz35_1 : w33.cell? ⟨gb158, 1, none⟩ = some (.int .i64 0) := (bC BK158.out 1).trans rfl; have hcz35_2 : w33.cell? ⟨gb158, 2, none⟩ = some (.int .i64 0) := (bC BK158.out 2).trans rfl; have hfz35_0 := bF BK158.out 0; have hfz35_1 := bF BK158.out 1; have hfz35_2 := bF BK158.out 2; have hcz36_0 : w33.cell? ⟨gb154, 0, none⟩ = some (.string (⟨#[]⟩ : ByteArray)) := (bC BK154.out 0).trans rfl; have hcz36_1 : w33.cell? ⟨gb154, 1, none⟩ = some (.int .i64 0) := (bC BK154.out 1).trans rfl; have hcz36_2 : w33.cell? ⟨gb154, 2, none⟩ = some (.int .i64 0) := (bC BK154.out 2).trans rfl; have hfz36_0 := bF BK154.out 0; have hfz36_1 := bF BK154.out 1; have hfz36_2 := bF BK154.out 2))
  refine bodyPost_ret (results_cell_row rfl _ _ gb154 173 #[.string (⟨#[]⟩ : ByteArray), .int .i64 0, .int .i64 t157] (0, 0) _ rfl (by (with_reducible repeat first | apply bN | apply bD | apply bA); refine bP (cs := #[.string (⟨#[]⟩ : ByteArray), .int .i64 0, .int .i64 0]) ?_ 2 _ rfl; (with_reducible repeat first | apply bN | apply bD | apply bA); refine bP (cs := #[.string (⟨#[]⟩ : ByteArray), .int .i64 0, .int .i64 0]) ?_ 1 _ rfl; (with_reducible repeat first | apply bN | apply bD | apply bA); refine bP (cs := #[.string (⟨#[]⟩ : ByteArray), .int .i64 0, .int .i64 0]) ?_ 0 _ rfl; (with_reducible repeat first | apply bN | apply bD | apply bA); refine bR ?_ NB154_158.out _; (with_reducible repeat first | apply bN | apply bD | apply bA); refine bR ?_ NB154_158.out _; (with_reducible repeat first | apply bN | apply bD | apply bA); refine bR ?_ NB154_158.out _; (with_reducible repeat first | apply bN | apply bD | apply bA); exact BK154.out) Try.underlying173 rfl (by kernel_rfl)) rfl ?_
  exact ⟨by first | rfl | (simp [errW_none, errW_some] <;> rfl) | (simp [*, errW_none, errW_some] <;> rfl), by repeat (first | (with_reducible first | exact HB.out | apply lA | apply lN | apply lD | refine lS ?_ GE154.out | refine lS ?_ GE158.out) | exact HB.out)⟩

/-! ### weighlockref34_reader_text: function 100 -/
def weighlockref34_reader_text.f (k : Nat) (a0_0 : ByteArray) (a0_1 : Bool) : Option (ByteArray × ByteArray × Bool) := (weighlockref01_Untext.f k a0_0).bind fun bt161 => (if a0_1 = true then (some ((⟨#[]⟩ : ByteArray), (⟨#[]⟩ : ByteArray), true)) else (if bt161.2.2 = 0 then (if 0 ≤ bt161.2.1 then (if bt161.2.1 ≤ (a0_0.size : Int) then (some (bt161.1, a0_0.extract (bt161.2.1 : Int).toNat a0_0.size, false)) else (none)) else (none)) else (some ((⟨#[]⟩ : ByteArray), (⟨#[]⟩ : ByteArray), true))))
theorem weighlockref34_reader_text.mono : ∀ a0 a1 k, LeO (weighlockref34_reader_text.f k a0 a1) (weighlockref34_reader_text.f (k + 1) a0 a1) := by
 intro a0 a1 k
 unfold weighlockref34_reader_text.f
 repeat' first
   | (with_reducible exact weighlockref01_Untext.mono _ _)
   | (with_reducible exact LeO.refl _)
   | (with_reducible exact LeO.none _)
   | (with_reducible refine LeO.ite ?_ ?_)
   | (with_reducible refine LeO.bind ?_ (fun _ => ?_))
   | exact weighlockref01_Untext.mono _ _
   | exact LeO.none _
   | refine LeO.ite ?_ ?_
   | refine LeO.bind ?_ (fun _ => ?_)
def weighlockref34_reader_text.T4 : Bool × List (List Nat × List Nat) := (true, [([], []), ([0], [0]), ([], []), ([2], [2]), ([], []), ([4], [4]), ([3, 5], [3, 5]), ([6], [6]), ([1, 0, 1], [1]), ([7, 8, 0, 1, 2, 3, 4, 5, 6, 7, 8], [7])])
def weighlockref34_reader_text.B4 : List Nat := [0, 1, 0, 4, 0, 16, 60, 124, 3, 511]
theorem weighlockref34_reader_text.tab4 : rtab .any (opsOf Try.f100 4) = weighlockref34_reader_text.T4 := by kernel_rfl
theorem weighlockref34_reader_text.bits4 : waitsOk weighlockref34_reader_text.T4.2 weighlockref34_reader_text.B4 = true := by kernel_rfl
set_option maxHeartbeats 8000000 in
set_option maxRecDepth 100000 in
theorem weighlockref34_reader_text.calls (k : Nat) (a0_0 : ByteArray) (a0_1 : Bool) (r1 : ByteArray) (r2 : ByteArray) (r3 : Bool) (w : World) (h : weighlockref34_reader_text.f k a0_0 a0_1 = some (r1, r2, r3)) :
  Calls Try.prog 100 #[.agg #[.string a0_0, .bool a0_1]] w fun e w' => e = .returned (.tuple #[.string r1, .agg #[.string r2, .bool r3]]) ∧ Below w.heap.size w w' := by
 have hu110 := Try.underlying110
 have hu173 := Try.underlying173
 have HB := Aside0.mk (Below.refl w.heap.size w)
 have H : ((weighlockref01_Untext.f k a0_0).bind fun bt161 => (if a0_1 = true then (some ((⟨#[]⟩ : ByteArray), (⟨#[]⟩ : ByteArray), true)) else (if bt161.2.2 = 0 then (if 0 ≤ bt161.2.1 then (if bt161.2.1 ≤ (a0_0.size : Int) then (some (bt161.1, a0_0.extract (bt161.2.1 : Int).toNat a0_0.size, false)) else (none)) else (none)) else (some ((⟨#[]⟩ : ByteArray), (⟨#[]⟩ : ByteArray), true))))) = some (r1, r2, r3) := h
 clear h
 replace H := Option.bind_eq_some_iff.mp H
 obtain ⟨⟨t161, t162, t163⟩, A20, H⟩ := H
 replace H : (if a0_1 = true then (some ((⟨#[]⟩ : ByteArray), (⟨#[]⟩ : ByteArray), true)) else (if t163 = 0 then (if 0 ≤ t162 then (if t162 ≤ (a0_0.size : Int) then (some (t161, a0_0.extract (t162 : Int).toNat a0_0.size, false)) else (none)) else (none)) else (some ((⟨#[]⟩ : ByteArray), (⟨#[]⟩ : ByteArray), true)))) = some (r1, r2, r3) := H
 have A2 := Aside0.mk A20
 clear A20
 by_cases c3 : a0_1 = true
 ·subst c3
  have H1 : (some ((⟨#[]⟩ : ByteArray), (⟨#[]⟩ : ByteArray), true)) = some (r1, r2, r3) := by rw [if_pos rfl] at H; exact H
  clear H
  have H := H1
  clear H1
  simp only [Option.some.injEq, Prod.mk.injEq] at H
  obtain ⟨rfl, rfl, rfl⟩ := H
  have hund : ∀ b, some undef = some (Value.bool b) → False := fun b h => by simp [undef] at h
  go_enter Try.func100, Try.ntmps100
  go_wp2_with (first | ((with_reducible refine gate_dst (N := 1) rfl ?_); refine box_event ?hg (N := 1) ?hd (cs := #[.string a0_0, .bool true]) (t := 110) ?hr ?_; (case hd => rfl); (case hg => rfl); (case hr => first | (go_simp; done) | (go_simp; rfl)); intro gb159 hg w4 hbox hb; have n0_ := Aside0.mk (below_step (by repeat (first | (with_reducible first | exact HB.out | apply lA | apply lN | apply lD) | exact HB.out)) hb); have n1_ := Aside0.mk (hbox); have n2_ := Aside0.mk ((by rw [hg]; exact (below_size (by repeat (first | (with_reducible first | exact HB.out | apply lA | apply lN | apply lD) | exact HB.out))) : w.heap.size ≤ gb159)); have n3_ := Aside0.mk ((by rw [hg]; exact (below_size (by repeat (first | (with_reducible first | exact HB.out | apply lA | apply lN | apply lD) | exact HB.out))) : w.heap.size ≤ gb159)); clear HB; have HB := n0_; have BK159 := n1_; have GW159 := n2_; have GE159 := n3_; clear n0_ n1_ n2_ n3_; clear hb hbox hg) | ((with_reducible refine gate_dst (N := 3) rfl ?_); refine box_event ?hg (N := 3) ?hd (cs := #[.string (⟨#[]⟩ : ByteArray), .bool false]) (t := 110) ?hr ?_; (case hd => rfl); (case hg => rfl); (case hr => first | (go_simp; done) | (go_simp; rfl)); intro gb160 hg w5 hbox hb; have n0_ := Aside0.mk (bB (g := gb159) (o := .cells #[.string a0_0, .bool true] 110 (0, 0)) (by (with_reducible repeat first | apply bN | apply bD | apply bA); exact BK159.out) hb); have n1_ := Aside0.mk (below_step (by repeat (first | (with_reducible first | exact HB.out | apply lA | apply lN | apply lD | refine lS ?_ GE159.out) | exact HB.out)) hb); have n2_ := Aside0.mk (hbox); have n3_ := Aside0.mk ((by rw [hg]; exact (below_size (by repeat (first | (with_reducible first | exact HB.out | apply lA | apply lN | apply lD | refine lS ?_ GE159.out) | exact HB.out))) : w.heap.size ≤ gb160)); have n4_ := Aside0.mk ((by rw [hg]; exact (below_size (by repeat (first | (with_reducible first | exact HB.out | apply lA | apply lN | apply lD | refine lS ?_ GE159.out) | exact HB.out))) : w.heap.size ≤ gb160)); have n5_ := Aside0.mk ((by rw [hg]; exact Nat.ne_of_lt (blk_lt (g := gb159) (o := .cells #[.string a0_0, .bool true] 110 (0, 0)) (by (with_reducible repeat first | apply bN | apply bD | apply bA); exact BK159.out)) : gb159 ≠ gb160)); have n6_ := Aside0.mk ((by rw [hg]; exact Nat.ne_of_gt (blk_lt (g := gb159) (o := .cells #[.string a0_0, .bool true] 110 (0, 0)) (by (with_reducible repeat first | apply bN | apply bD | apply bA); exact BK159.out)) : gb160 ≠ gb159)); clear BK159; clear HB; have BK159 := n0_; have HB := n1_; have BK160 := n2_; have GW160 := n3_; have GE160 := n4_; have NB159_160 := n5_; have NB160_159 := n6_; clear n0_ n1_ n2_ n3_ n4_ n5_ n6_; clear hb hbox hg; have hnb6 := NB159_160.out; have hnc6 := NB160_159.out; have hcz7_0 : w5.cell? ⟨gb159, 0, none⟩ = some (.string a0_0) := (bC BK159.out 0).trans rfl; have hcz7_1 : w5.cell? ⟨gb159, 1, none⟩ = some (.bool true) := (bC BK159.out 1).trans rfl; have hfz7_0 := bF BK159.out 0; have hfz7_1 := bF BK159.out 1) | ((with_reducible refine gate_callee (f := 112) rfl ?_); refine goesL_ (some 7) rfl rfl Try.func112 (by kernel_rfl) rfl #[.string a0_0] rfl (by (try simp only [List.map_toArray, List.map_cons, List.map_nil]); first | done | rfl | (simp only [List.length_drop, List.length_take]; rfl)) ?_; (with_reducible refine (weighlockref01_Untext.calls k a0_0 t161 t162 t163 _ A2.out).mono ?_); rintro e w8 ⟨rfl, hb⟩; refine ⟨_, rfl, ?_⟩; have n0_ := Aside0.mk (bB (g := gb159) (o := .cells #[.string a0_0, .bool true] 110 (0, 0)) (by (with_reducible repeat first | apply bN | apply bD | apply bA); exact BK159.out) hb); have n1_ := Aside0.mk (bB (g := gb160) (o := .cells #[.string (⟨#[]⟩ : ByteArray), .bool false] 110 (0, 0)) (by (with_reducible repeat first | apply bN | apply bD | apply bA); exact BK160.out) hb); have n2_ := Aside0.mk (below_step (by repeat (first | (with_reducible first | exact HB.out | apply lA | apply lN | apply lD | refine lS ?_ GE159.out | refine lS ?_ GE160.out) | exact HB.out)) hb); clear BK159; clear BK160; clear HB; have BK159 := n0_; have BK160 := n1_; have HB := n2_; clear n0_ n1_ n2_; (try clear hb); (try clear hb2); (try clear hk); (try clear hi)) | ((with_reducible refine gate_dst (N := 4) rfl ?_); refine box_event ?hg (N := 4) ?hd (cs := #[.string (⟨#[]⟩ : ByteArray), .int .i64 0, .int .i64 0]) (t := 173) ?hr ?_; (case hd => rfl); (case hg => rfl); (case hr => first | (go_simp; done) | (go_simp; rfl)); intro gb164 hg w9 hbox hb; have n0_ := Aside0.mk (bB (g := gb159) (o := .cells #[.string a0_0, .bool true] 110 (0, 0)) (by (with_reducible repeat first | apply bN | apply bD | apply bA); exact BK159.out) hb); have n1_ := Aside0.mk (bB (g := gb160) (o := .cells #[.string (⟨#[]⟩ : ByteArray), .bool false] 110 (0, 0)) (by (with_reducible repeat first | apply bN | apply bD | apply bA); exact BK160.out) hb); have n2_ := Aside0.mk (below_step (by repeat (first | (with_reducible first | exact HB.out | apply lA | apply lN | apply lD | refine lS ?_ GE159.out | refine lS ?_ GE160.out) | exact HB.out)) hb); have n3_ := Aside0.mk (hbox); have n4_ := Aside0.mk ((by rw [hg]; exact (below_size (by repeat (first | (with_reducible first | exact HB.out | apply lA | apply lN | apply lD | refine lS ?_ GE159.out | refine lS ?_ GE160.out) | exact HB.out))) : w.heap.size ≤ gb164)); have n5_ := Aside0.mk ((by rw [hg]; exact (below_size (by repeat (first | (with_reducible first | exact HB.out | apply lA | apply lN | apply lD | refine lS ?_ GE159.out | refine lS ?_ GE160.out) | exact HB.out))) : w.heap.size ≤ gb164)); have n6_ := Aside0.mk ((by rw [hg]; exact Nat.ne_of_lt (blk_lt (g := gb159) (o := .cells #[.string a0_0, .bool true] 110 (0, 0)) (by (with_reducible repeat first | apply bN | apply bD | apply bA); exact BK159.out)) : gb159 ≠ gb164)); have n7_ := Aside0.mk ((by rw [hg]; exact Nat.ne_of_gt (blk_lt (g := gb159) (o := .cells #[.string a0_0, .bool true] 110 (0, 0)) (by (with_reducible repeat first | apply bN | apply bD | apply bA); exact BK159.out)) : gb164 ≠ gb159)); have n8_ := Aside0.mk ((by rw [hg]; exact Nat.ne_of_lt (blk_lt (g := gb160) (o := .cells #[.string (⟨#[]⟩ : ByteArray), .bool false] 110 (0, 0)) (by (with_reducible repeat first | apply bN | apply bD | apply bA); exact BK160.out)) : gb160 ≠ gb164)); have n9_ := Aside0.mk ((by rw [hg]; exact Nat.ne_of_gt (blk_lt (g := gb160) (o := .cells #[.string (⟨#[]⟩ : ByteArray), .bool false] 110 (0, 0)) (by (with_reducible repeat first | apply bN | apply bD | apply bA); exact BK160.out)) : gb164 ≠ gb160)); clear BK159; clear BK160; clear HB; have BK159 := n0_; have BK160 := n1_; have HB := n2_; have BK164 := n3_; have GW164 := n4_; have GE164 := n5_; have NB159_164 := n6_; have NB164_159 := n7_; have NB160_164 := n8_; have NB164_160 := n9_; clear n0_ n1_ n2_ n3_ n4_ n5_ n6_ n7_ n8_ n9_; clear hb hbox hg; have hnb10 := NB164_159.out; have hnc10 := NB159_164.out; have hnb11 := NB164_160.out; have hnc11 := NB160_164.out; have hcz12_0 : w9.cell? ⟨gb164, 0, none⟩ = some (.string (⟨#[]⟩ : ByteArray)) := (bC BK164.out 0).trans rfl; have hcz12_1 : w9.cell? ⟨gb164, 1, none⟩ = some (.int .i64 0) := (bC BK164.out 1).trans rfl; have hcz12_2 : w9.cell? ⟨gb164, 2, none⟩ = some (.int .i64 0) := (bC BK164.out 2).trans rfl; have hfz12_0 := bF BK164.out 0; have hfz12_1 := bF BK164.out 1; have hfz12_2 := bF BK164.out 2; have hcz13_0 : w9.cell? ⟨gb159, 0, none⟩ = some (.string a0_0) := (bC BK159.out 0).trans rfl; have hcz13_1 : w9.cell? ⟨gb159, 1, none⟩ = some (.bool true) := (bC BK159.out 1).trans rfl; have hfz13_0 := bF BK159.out 0; have hfz13_1 := bF BK159.out 1; have hcz14_0 : w9.cell? ⟨gb160, 0, none⟩ = some (.string (⟨#[]⟩ : ByteArray)) := (bC BK160.out 0).trans rfl; have hcz14_1 : w9.cell? ⟨gb160, 1, none⟩ = some (.bool false) := (bC BK160.out 1).trans rfl; have hfz14_0 := bF BK160.out 0; have hfz14_1 := bF BK160.out 1))
  refine bodyPost_ret (results_tc rfl _ _ gb160 110 #[.string (⟨#[]⟩ : ByteArray), .bool true] (0, 0) _ rfl (by (with_reducible repeat first | apply bN | apply bD | apply bA); refine bP (cs := #[.string (⟨#[]⟩ : ByteArray), .bool false]) ?_ 1 _ rfl; (with_reducible repeat first | apply bN | apply bD | apply bA); refine bP (cs := #[.string (⟨#[]⟩ : ByteArray), .bool false]) ?_ 0 _ rfl; (with_reducible repeat first | apply bN | apply bD | apply bA); refine bR ?_ NB160_164.out _; (with_reducible repeat first | apply bN | apply bD | apply bA); refine bR ?_ NB160_164.out _; (with_reducible repeat first | apply bN | apply bD | apply bA); refine bR ?_ NB160_164.out _; (with_reducible repeat first | apply bN | apply bD | apply bA); exact BK160.out) Try.underlying110 rfl (by kernel_rfl)) rfl ?_
  exact ⟨by first | rfl | (simp [errW_none, errW_some] <;> rfl) | (simp [*, errW_none, errW_some] <;> rfl), by repeat (first | (with_reducible first | exact HB.out | apply lA | apply lN | apply lD | refine lS ?_ GE159.out | refine lS ?_ GE160.out | refine lS ?_ GE164.out) | exact HB.out)⟩
 ·replace c3 := Bool.eq_false_iff.mpr c3
  subst c3
  have H1 : (if t163 = 0 then (if 0 ≤ t162 then (if t162 ≤ (a0_0.size : Int) then (some (t161, a0_0.extract (t162 : Int).toNat a0_0.size, false)) else (none)) else (none)) else (some ((⟨#[]⟩ : ByteArray), (⟨#[]⟩ : ByteArray), true))) = some (r1, r2, r3) := by rw [if_neg (show ¬ (false = true) by decide)] at H; exact H
  clear H
  have H := H1
  clear H1
  by_cases c15 : t163 = 0
  ·rw [if_pos c15] at H
   have c15b0 : (t163 == 0) = true := beq_iff_eq.mpr c15
   have c15b1 : (t163 != 0) = false := bne_eq_false_iff_eq.mpr c15
   clear c15
   by_cases c16 : 0 ≤ t162
   ·rw [if_pos c16] at H
    have c16b0 := eq_true c16
    have c16b1 : decide (0 ≤ t162) = true := decide_eq_true c16
    clear c16
    by_cases c17 : t162 ≤ (a0_0.size : Int)
    ·rw [if_pos c17] at H
     have c17b0 := eq_true c17
     have c17b1 : decide (t162 ≤ (a0_0.size : Int)) = true := decide_eq_true c17
     clear c17
     simp only [Option.some.injEq, Prod.mk.injEq] at H
     obtain ⟨rfl, rfl, rfl⟩ := H
     have hund : ∀ b, some undef = some (Value.bool b) → False := fun b h => by simp [undef] at h
     go_enter Try.func100, Try.ntmps100
     try go_wp2_with (first | ((with_reducible refine gate_dst (N := 1) rfl ?_); refine box_event ?hg (N := 1) ?hd (cs := #[.string a0_0, .bool false]) (t := 110) ?hr ?_; (case hd => rfl); (case hg => rfl); (case hr => first | (go_simp; done) | (go_simp; rfl)); intro gb159 hg w18 hbox hb; have n0_ := Aside0.mk (below_step (by repeat (first | (with_reducible first | exact HB.out | apply lA | apply lN | apply lD) | exact HB.out)) hb); have n1_ := Aside0.mk (hbox); have n2_ := Aside0.mk ((by rw [hg]; exact (below_size (by repeat (first | (with_reducible first | exact HB.out | apply lA | apply lN | apply lD) | exact HB.out))) : w.heap.size ≤ gb159)); have n3_ := Aside0.mk ((by rw [hg]; exact (below_size (by repeat (first | (with_reducible first | exact HB.out | apply lA | apply lN | apply lD) | exact HB.out))) : w.heap.size ≤ gb159)); clear HB; have HB := n0_; have BK159 := n1_; have GW159 := n2_; have GE159 := n3_; clear n0_ n1_ n2_ n3_; clear hb hbox hg) | ((with_reducible refine gate_dst (N := 3) rfl ?_); refine box_event ?hg (N := 3) ?hd (cs := #[.string (⟨#[]⟩ : ByteArray), .bool false]) (t := 110) ?hr ?_; (case hd => rfl); (case hg => rfl); (case hr => first | (go_simp; done) | (go_simp; rfl)); intro gb160 hg w19 hbox hb; have n0_ := Aside0.mk (bB (g := gb159) (o := .cells #[.string a0_0, .bool false] 110 (0, 0)) (by (with_reducible repeat first | apply bN | apply bD | apply bA); exact BK159.out) hb); have n1_ := Aside0.mk (below_step (by repeat (first | (with_reducible first | exact HB.out | apply lA | apply lN | apply lD | refine lS ?_ GE159.out) | exact HB.out)) hb); have n2_ := Aside0.mk (hbox); have n3_ := Aside0.mk ((by rw [hg]; exact (below_size (by repeat (first | (with_reducible first | exact HB.out | apply lA | apply lN | apply lD | refine lS ?_ GE159.out) | exact HB.out))) : w.heap.size ≤ gb160)); have n4_ := Aside0.mk ((by rw [hg]; exact (below_size (by repeat (first | (with_reducible first | exact HB.out | apply lA | apply lN | apply lD | refine lS ?_ GE159.out) | exact HB.out))) : w.heap.size ≤ gb160)); have n5_ := Aside0.mk ((by rw [hg]; exact Nat.ne_of_lt (blk_lt (g := gb159) (o := .cells #[.string a0_0, .bool false] 110 (0, 0)) (by (with_reducible repeat first | apply bN | apply bD | apply bA); exact BK159.out)) : gb159 ≠ gb160)); have n6_ := Aside0.mk ((by rw [hg]; exact Nat.ne_of_gt (blk_lt (g := gb159) (o := .cells #[.string a0_0, .bool false] 110 (0, 0)) (by (with_reducible repeat first | apply bN | apply bD | apply bA); exact BK159.out)) : gb160 ≠ gb159)); clear BK159; clear HB; have BK159 := n0_; have HB := n1_; have BK160 := n2_; have GW160 := n3_; have GE160 := n4_; have NB159_160 := n5_; have NB160_159 := n6_; clear n0_ n1_ n2_ n3_ n4_ n5_ n6_; clear hb hbox hg; have hnb20 := NB159_160.out; have hnc20 := NB160_159.out; have hcz21_0 : w19.cell? ⟨gb159, 0, none⟩ = some (.string a0_0) := (bC BK159.out 0).trans rfl; have hcz21_1 : w19.cell? ⟨gb159, 1, none⟩ = some (.bool false) := (bC BK159.out 1).trans rfl; have hfz21_0 := bF BK159.out 0; have hfz21_1 := bF BK159.out 1) | ((with_reducible refine gate_callee (f := 112) rfl ?_); refine goesL_ (some 7) rfl rfl Try.func112 (by kernel_rfl) rfl #[.string a0_0] rfl (by (try simp only [List.map_toArray, List.map_cons, List.map_nil]); first | done | rfl | (simp only [List.length_drop, List.length_take]; rfl)) ?_; (with_reducible refine (weighlockref01_Untext.calls k a0_0 t161 t162 t163 _ A2.out).mono ?_); rintro e w22 ⟨rfl, hb⟩; refine ⟨_, rfl, ?_⟩; have n0_ := Aside0.mk (bB (g := gb159) (o := .cells #[.string a0_0, .bool false] 110 (0, 0)) (by (with_reducible repeat first | apply bN | apply bD | apply bA); exact BK159.out) hb); have n1_ := Aside0.mk (bB (g := gb160) (o := .cells #[.string (⟨#[]⟩ : ByteArray), .bool false] 110 (0, 0)) (by (with_reducible repeat first | apply bN | apply bD | apply bA); exact BK160.out) hb); have n2_ := Aside0.mk (below_step (by repeat (first | (with_reducible first | exact HB.out | apply lA | apply lN | apply lD | refine lS ?_ GE159.out | refine lS ?_ GE160.out) | exact HB.out)) hb); clear BK159; clear BK160; clear HB; have BK159 := n0_; have BK160 := n1_; have HB := n2_; clear n0_ n1_ n2_; (try clear hb); (try clear hb2); (try clear hk); (try clear hi)) | ((with_reducible refine gate_dst (N := 4) rfl ?_); refine box_event ?hg (N := 4) ?hd (cs := #[.string (⟨#[]⟩ : ByteArray), .int .i64 0, .int .i64 0]) (t := 173) ?hr ?_; (case hd => rfl); (case hg => rfl); (case hr => first | (go_simp; done) | (go_simp; rfl)); intro gb164 hg w23 hbox hb; have n0_ := Aside0.mk (bB (g := gb159) (o := .cells #[.string a0_0, .bool false] 110 (0, 0)) (by (with_reducible repeat first | apply bN | apply bD | apply bA); exact BK159.out) hb); have n1_ := Aside0.mk (bB (g := gb160) (o := .cells #[.string (⟨#[]⟩ : ByteArray), .bool false] 110 (0, 0)) (by (with_reducible repeat first | apply bN | apply bD | apply bA); exact BK160.out) hb); have n2_ := Aside0.mk (below_step (by repeat (first | (with_reducible first | exact HB.out | apply lA | apply lN | apply lD | refine lS ?_ GE159.out | refine lS ?_ GE160.out) | exact HB.out)) hb); have n3_ := Aside0.mk (hbox); have n4_ := Aside0.mk ((by rw [hg]; exact (below_size (by repeat (first | (with_reducible first | exact HB.out | apply lA | apply lN | apply lD | refine lS ?_ GE159.out | refine lS ?_ GE160.out) | exact HB.out))) : w.heap.size ≤ gb164)); have n5_ := Aside0.mk ((by rw [hg]; exact (below_size (by repeat (first | (with_reducible first | exact HB.out | apply lA | apply lN | apply lD | refine lS ?_ GE159.out | refine lS ?_ GE160.out) | exact HB.out))) : w.heap.size ≤ gb164)); have n6_ := Aside0.mk ((by rw [hg]; exact Nat.ne_of_lt (blk_lt (g := gb159) (o := .cells #[.string a0_0, .bool false] 110 (0, 0)) (by (with_reducible repeat first | apply bN | apply bD | apply bA); exact BK159.out)) : gb159 ≠ gb164)); have n7_ := Aside0.mk ((by rw [hg]; exact Nat.ne_of_gt (blk_lt (g := gb159) (o := .cells #[.string a0_0, .bool false] 110 (0, 0)) (by (with_reducible repeat first | apply bN | apply bD | apply bA); exact BK159.out)) : gb164 ≠ gb159)); have n8_ := Aside0.mk ((by rw [hg]; exact Nat.ne_of_lt (blk_lt (g := gb160) (o := .cells #[.string (⟨#[]⟩ : ByteArray), .bool false] 110 (0, 0)) (by (with_reducible repeat first | apply bN | apply bD | apply bA); exact BK160.out)) : gb160 ≠ gb164)); have n9_ := Aside0.mk ((by rw [hg]; exact Nat.ne_of_gt (blk_lt (g := gb160) (o := .cells #[.string (⟨#[]⟩ : ByteArray), .bool false] 110 (0, 0)) (by (with_reducible repeat first | apply bN | apply bD | apply bA); exact BK160.out)) : gb164 ≠ gb160)); clear BK159; clear BK160; clear HB; have BK159 := n0_; have BK160 := n1_; have HB := n2_; have BK164 := n3_; have GW164 := n4_; have GE164 := n5_; have NB159_164 := n6_; have NB164_159 := n7_; have NB160_164 := n8_; have NB164_160 := n9_; clear n0_ n1_ n2_ n3_ n4_ n5_ n6_ n7_ n8_ n9_; clear hb hbox hg; have hnb24 := NB164_159.out; have hnc24 := NB159_164.out; have hnb25 := NB164_160.out; have hnc25 := NB160_164.out; have hcz26_0 : w23.cell? ⟨gb164, 0, none⟩ = some (.string (⟨#[]⟩ : ByteArray)) := (bC BK164.out 0).trans rfl; have hcz26_1 : w23.cell? ⟨gb164, 1, none⟩ = some (.int .i64 0) := (bC BK164.out 1).trans rfl; have hcz26_2 : w23.cell? ⟨gb164, 2, none⟩ = some (.int .i64 0) := (bC BK164.out 2).trans rfl; have hfz26_0 := bF BK164.out 0; have hfz26_1 := bF BK164.out 1; have hfz26_2 := bF BK164.out 2; have hcz27_0 : w23.cell? ⟨gb159, 0, none⟩ = some (.string a0_0) := (bC BK159.out 0).trans rfl; have hcz27_1 : w23.cell? ⟨gb159, 1, none⟩ = some (.bool false) := (bC BK159.out 1).trans rfl; have hfz27_0 := bF BK159.out 0; have hfz27_1 := bF BK159.out 1))
     have n0_ : Aside0 ((((w23.setCell ⟨gb164, 0, none⟩ (.string t161)).setCell ⟨gb164, 1, none⟩ (.int .i64 t162)).setCell ⟨gb164, 2, none⟩ (.int .i64 t163)).heap[gb159]? = some (.cells #[.string a0_0, .bool false] 110 (0, 0))) := ⟨by (with_reducible repeat first | apply bN | apply bD | apply bA); refine bR ?_ NB159_164.out _; (with_reducible repeat first | apply bN | apply bD | apply bA); refine bR ?_ NB159_164.out _; (with_reducible repeat first | apply bN | apply bD | apply bA); refine bR ?_ NB159_164.out _; (with_reducible repeat first | apply bN | apply bD | apply bA); exact BK159.out⟩
     have n1_ : Aside0 ((((w23.setCell ⟨gb164, 0, none⟩ (.string t161)).setCell ⟨gb164, 1, none⟩ (.int .i64 t162)).setCell ⟨gb164, 2, none⟩ (.int .i64 t163)).heap[gb160]? = some (.cells #[.string (⟨#[]⟩ : ByteArray), .bool false] 110 (0, 0))) := ⟨by (with_reducible repeat first | apply bN | apply bD | apply bA); refine bR ?_ NB160_164.out _; (with_reducible repeat first | apply bN | apply bD | apply bA); refine bR ?_ NB160_164.out _; (with_reducible repeat first | apply bN | apply bD | apply bA); refine bR ?_ NB160_164.out _; (with_reducible repeat first | apply bN | apply bD | apply bA); exact BK160.out⟩
     have n2_ : Aside0 ((((w23.setCell ⟨gb164, 0, none⟩ (.string t161)).setCell ⟨gb164, 1, none⟩ (.int .i64 t162)).setCell ⟨gb164, 2, none⟩ (.int .i64 t163)).heap[gb164]? = some (.cells #[.string t161, .int .i64 t162, .int .i64 t163] 173 (0, 0))) := ⟨by (with_reducible repeat first | apply bN | apply bD | apply bA); refine bP (cs := #[.string t161, .int .i64 t162, .int .i64 0]) ?_ 2 _ rfl; (with_reducible repeat first | apply bN | apply bD | apply bA); refine bP (cs := #[.string t161, .int .i64 0, .int .i64 0]) ?_ 1 _ rfl; (with_reducible repeat first | apply bN | apply bD | apply bA); refine bP (cs := #[.string (⟨#[]⟩ : ByteArray), .int .i64 0, .int .i64 0]) ?_ 0 _ rfl; (with_reducible repeat first | apply bN | apply bD | apply bA); exact BK164.out⟩
     have n3_ : Aside0 (Below w.heap.size w (((w23.setCell ⟨gb164, 0, none⟩ (.string t161)).setCell ⟨gb164, 1, none⟩ (.int .i64 t162)).setCell ⟨gb164, 2, none⟩ (.int .i64 t163))) := ⟨by repeat (first | (with_reducible first | exact HB.out | apply lA | apply lN | apply lD | refine lS ?_ GE159.out | refine lS ?_ GE160.out | refine lS ?_ GE164.out) | exact HB.out)⟩
     (try clear BK159)
     (try clear BK160)
     (try clear BK164)
     (try clear HB)
     generalize (((w23.setCell ⟨gb164, 0, none⟩ (.string t161)).setCell ⟨gb164, 1, none⟩ (.int .i64 t162)).setCell ⟨gb164, 2, none⟩ (.int .i64 t163)) = w28 at n0_ n1_ n2_ n3_ ⊢
     have BK159 := n0_
     have BK160 := n1_
     have BK164 := n2_
     have HB := n3_
     clear n0_ n1_ n2_ n3_
     have n0_ := Aside0.mk (bD BK159.out)
     have n1_ := Aside0.mk (bD BK160.out)
     have n2_ := Aside0.mk (bD BK164.out)
     have n3_ := Aside0.mk (lD HB.out)
     clear BK159
     clear BK160
     clear BK164
     clear HB
     have BK159 := n0_
     have BK160 := n1_
     have BK164 := n2_
     have HB := n3_
     clear n0_ n1_ n2_ n3_
     refine start_ (n := 10) (S := fun w' => w'.cell? ⟨gb164, 0, none⟩ = some (.string t161) ∧ w'.cell? ⟨gb164, 1, none⟩ = some (.int .i64 t162) ∧ w'.cell? ⟨gb164, 2, none⟩ = some (.int .i64 t163) ∧ w'.cell? ⟨gb159, 0, none⟩ = some (.string a0_0) ∧ w'.cell? ⟨gb159, 1, none⟩ = some (.bool false)) (ds := []) #[false, false, false, false, false, false, false, false, false, false] (by kernel_rfl) rfl rfl ⟨(bC BK164.out 0).trans rfl, (bC BK164.out 1).trans rfl, (bC BK164.out 2).trans rfl, (bC BK159.out 0).trans rfl, (bC BK159.out 1).trans rfl⟩ (fun hHeld => ?_); refine with_tabW weighlockref34_reader_text.tab4 weighlockref34_reader_text.bits4 (fun HT_ HW_ => ?_)
     generalize w28.drew = w29 at BK159 BK160 BK164 HB hHeld ⊢
     refine pure_ (i := 0) (N := some 16) (v := ?_) (a' := ?_) #[true, false, false, false, false, false, false, false, false, false] rfl rfl (any_of HT_.out (by kernel_rfl)) (fun _ _ _ h => h) (Or.inl ⟨by rfl, ?_⟩) ?_ ?_
     rotate_left
     ·intro w'
      go_simp
      with_reducible rfl
     rotate_left
     ·simp only [Act.put, List.setIfInBounds_toArray, List.set_cons_zero, List.set_cons_succ, i64_w, i32_w]
      rfl
     refine pure_ (i := 2) (N := some 18) (v := ?_) (a' := ?_) #[true, false, true, false, false, false, false, false, false, false] rfl rfl (any_of HT_.out (by kernel_rfl)) (fun _ _ _ h => h) (Or.inl ⟨by rfl, ?_⟩) ?_ ?_
     rotate_left
     ·intro w'
      go_simp
      with_reducible rfl
     rotate_left
     ·simp only [Act.put, List.setIfInBounds_toArray, List.set_cons_zero, List.set_cons_succ, i64_w, i32_w]
      rfl
     refine pure_ (i := 4) (N := some 20) (v := ?_) (a' := ?_) #[true, false, true, false, true, false, false, false, false, false] rfl rfl (any_of HT_.out (by kernel_rfl)) (fun _ _ _ h => h) (Or.inl ⟨by rfl, ?_⟩) ?_ ?_
     rotate_left
     ·intro w'
      go_simp
      with_reducible rfl
     rotate_left
     ·simp only [Act.put, List.setIfInBounds_toArray, List.set_cons_zero, List.set_cons_succ, i64_w, i32_w]
      rfl
     refine take_ (i := 1) (N := some 17) (v := ?_) (a' := ?_) #[true, true, true, false, true, false, false, false, false, false] rfl rfl (take_ofW HT_.out HW_.out (by kernel_rfl)) (fun _ _ _ h => h) (Or.inl ⟨by rfl, ?_⟩) hHeld ?_ ?_
     rotate_left
     ·rintro w' ⟨s0, s1, s2, s3, s4⟩
      go_simp
      with_reducible rfl
     rotate_left
     ·simp only [Act.put, List.setIfInBounds_toArray, List.set_cons_zero, List.set_cons_succ, i64_w, i32_w]
      rfl
     refine pure_ (i := 8) (N := some 2) (v := ?_) (a' := ?_) #[true, true, true, false, true, false, false, false, true, false] rfl rfl (any_of HT_.out (by kernel_rfl)) (fun _ _ _ h => h) (Or.inl ⟨by rfl, ?_⟩) ?_ ?_
     rotate_left
     ·intro w'
      go_simp
      with_reducible rfl
     rotate_left
     ·simp only [Act.put, List.setIfInBounds_toArray, List.set_cons_zero, List.set_cons_succ, i64_w, i32_w]
      rfl
     refine take_ (i := 3) (N := some 19) (v := ?_) (a' := ?_) #[true, true, true, true, true, false, false, false, true, false] rfl rfl (take_ofW HT_.out HW_.out (by kernel_rfl)) (fun _ _ _ h => h) (Or.inl ⟨by rfl, ?_⟩) hHeld ?_ ?_
     rotate_left
     ·rintro w' ⟨s0, s1, s2, s3, s4⟩
      go_simp
      with_reducible rfl
     rotate_left
     ·simp only [Act.put, List.setIfInBounds_toArray, List.set_cons_zero, List.set_cons_succ, i64_w, i32_w]
      rfl
     refine take_ (i := 5) (N := some 21) (v := ?_) (a' := ?_) #[true, true, true, true, true, true, false, false, true, false] rfl rfl (take_ofW HT_.out HW_.out (by kernel_rfl)) (fun _ _ _ h => h) (Or.inl ⟨by rfl, ?_⟩) hHeld ?_ ?_
     rotate_left
     ·rintro w' ⟨s0, s1, s2, s3, s4⟩
      go_simp
      with_reducible rfl
     rotate_left
     ·simp only [Act.put, List.setIfInBounds_toArray, List.set_cons_zero, List.set_cons_succ, i64_w, i32_w]
      rfl
     refine pure_ (i := 6) (N := some 22) (v := ?_) (a' := ?_) #[true, true, true, true, true, true, true, false, true, false] rfl rfl (any_of HT_.out (by kernel_rfl)) (fun _ _ _ h => h) (Or.inl ⟨by rfl, ?_⟩) ?_ ?_
     rotate_left
     ·intro w'
      go_simp
      with_reducible rfl
     rotate_left
     ·simp only [Act.put, List.setIfInBounds_toArray, List.set_cons_zero, List.set_cons_succ, i64_w, i32_w]
      rfl
     refine pure_ (i := 7) (N := some 23) (v := ?_) (a' := ?_) #[true, true, true, true, true, true, true, true, true, false] rfl rfl (any_of HT_.out (by kernel_rfl)) (fun _ _ _ h => h) (Or.inl ⟨by rfl, ?_⟩) ?_ ?_
     rotate_left
     ·intro w'
      go_simp
      with_reducible rfl
     rotate_left
     ·simp only [Act.put, List.setIfInBounds_toArray, List.set_cons_zero, List.set_cons_succ, i64_w, i32_w]
      rfl
     refine one_ (i := 9) (N := none) #[true, true, true, true, true, true, true, true, true, true] rfl rfl (one_of HT_.out (by kernel_rfl)) (by decide) (fun K hK => ?_)
     have hs30 : w29.cell? ⟨gb160, 0, none⟩ = some (.string (⟨#[]⟩ : ByteArray)) := (bC BK160.out 0).trans rfl
     have hfs30 := bF BK160.out 0
     have hns30_0 := NB159_160.out
     have hns30_2 := NB164_160.out
     have hms30_0 := NB160_159.out
     have hms30_2 := NB160_164.out
     have hs31 : w29.cell? ⟨gb160, 1, none⟩ = some (.bool false) := (bC BK160.out 1).trans rfl
     have hfs31 := bF BK160.out 1
     have hns31_0 := NB159_160.out
     have hns31_2 := NB164_160.out
     have hms31_0 := NB160_159.out
     have hms31_2 := NB160_164.out
     refine skip_ (w1 := ?_) (by rfl) rfl ?_ ?_
     rotate_left
     ·go_simp
      rfl
     refine hK.out _ _ ⟨((cell_far (p := ⟨gb160, _, none⟩) NB164_160.out _).trans (((cell_far (p := ⟨gb160, _, none⟩) NB164_160.out _).trans (hHeld.1)))), ((cell_far (p := ⟨gb160, _, none⟩) NB164_160.out _).trans (((cell_far (p := ⟨gb160, _, none⟩) NB164_160.out _).trans (hHeld.2.1)))), ((cell_far (p := ⟨gb160, _, none⟩) NB164_160.out _).trans (((cell_far (p := ⟨gb160, _, none⟩) NB164_160.out _).trans (hHeld.2.2.1)))), ((cell_far (p := ⟨gb160, _, none⟩) NB159_160.out _).trans (((cell_far (p := ⟨gb160, _, none⟩) NB159_160.out _).trans (hHeld.2.2.2.1)))), ((cell_far (p := ⟨gb160, _, none⟩) NB159_160.out _).trans (((cell_far (p := ⟨gb160, _, none⟩) NB159_160.out _).trans (hHeld.2.2.2.2))))⟩ (fun hHeld => ?_)
     clear hK K
     refine done_ (done_of HT_.out (by kernel_rfl)) ?_
     try go_wp2
     refine bodyPost_ret (results_tc rfl _ _ gb160 110 #[.string (a0_0.extract (t162 : Int).toNat a0_0.size), .bool false] (0, 0) _ rfl (by (with_reducible repeat first | apply bN | apply bD | apply bA); refine bP (cs := #[.string (a0_0.extract (t162 : Int).toNat a0_0.size), .bool false]) ?_ 1 _ rfl; (with_reducible repeat first | apply bN | apply bD | apply bA); refine bP (cs := #[.string (⟨#[]⟩ : ByteArray), .bool false]) ?_ 0 _ rfl; (with_reducible repeat first | apply bN | apply bD | apply bA); exact BK160.out) Try.underlying110 rfl (by kernel_rfl)) rfl ?_
     exact ⟨by first | rfl | (simp [errW_none, errW_some] <;> rfl) | (simp [*, errW_none, errW_some] <;> rfl), by repeat (first | (with_reducible first | exact HB.out | apply lA | apply lN | apply lD | refine lS ?_ GE159.out | refine lS ?_ GE160.out | refine lS ?_ GE164.out) | exact HB.out)⟩
    ·rw [if_neg c17] at H
     exact absurd H (by simp)
   ·rw [if_neg c16] at H
    exact absurd H (by simp)
  ·rw [if_neg c15] at H
   have c15b0 : (t163 == 0) = false := beq_eq_false_iff_ne.mpr c15
   have c15b1 : (t163 != 0) = true := bne_iff_ne.mpr c15
   simp only [Option.some.injEq, Prod.mk.injEq] at H
   obtain ⟨rfl, rfl, rfl⟩ := H
   have hund : ∀ b, some undef = some (Value.bool b) → False := fun b h => by simp [undef] at h
   go_enter Try.func100, Try.ntmps100
   go_wp2_with (first | ((with_reducible refine gate_dst (N := 1) rfl ?_); refine box_event ?hg (N := 1) ?hd (cs := #[.string a0_0, .bool false]) (t := 110) ?hr ?_; (case hd => rfl); (case hg => rfl); (case hr => first | (go_simp; done) | (go_simp; rfl)); intro gb159 hg w32 hbox hb; have n0_ := Aside0.mk (below_step (by repeat (first | (with_reducible first | exact HB.out | apply lA | apply lN | apply lD) | exact HB.out)) hb); have n1_ := Aside0.mk (hbox); have n2_ := Aside0.mk ((by rw [hg]; exact (below_size (by repeat (first | (with_reducible first | exact HB.out | apply lA | apply lN | apply lD) | exact HB.out))) : w.heap.size ≤ gb159)); have n3_ := Aside0.mk ((by rw [hg]; exact (below_size (by repeat (first | (with_reducible first | exact HB.out | apply lA | apply lN | apply lD) | exact HB.out))) : w.heap.size ≤ gb159)); clear HB; have HB := n0_; have BK159 := n1_; have GW159 := n2_; have GE159 := n3_; clear n0_ n1_ n2_ n3_; clear hb hbox hg) | ((with_reducible refine gate_dst (N := 3) rfl ?_); refine box_event ?hg (N := 3) ?hd (cs := #[.string (⟨#[]⟩ : ByteArray), .bool false]) (t := 110) ?hr ?_; (case hd => rfl); (case hg => rfl); (case hr => first | (go_simp; done) | (go_simp; rfl)); intro gb160 hg w33 hbox hb; have n0_ := Aside0.mk (bB (g := gb159) (o := .cells #[.string a0_0, .bool false] 110 (0, 0)) (by (with_reducible repeat first | apply bN | apply bD | apply bA); exact BK159.out) hb); have n1_ := Aside0.mk (below_step (by repeat (first | (with_reducible first | exact HB.out | apply lA | apply lN | apply lD | refine lS ?_ GE159.out) | exact HB.out)) hb); have n2_ := Aside0.mk (hbox); have n3_ := Aside0.mk ((by rw [hg]; exact (below_size (by repeat (first | (with_reducible first | exact HB.out | apply lA | apply lN | apply lD | refine lS ?_ GE159.out) | exact HB.out))) : w.heap.size ≤ gb160)); have n4_ := Aside0.mk ((by rw [hg]; exact (below_size (by repeat (first | (with_reducible first | exact HB.out | apply lA | apply lN | apply lD | refine lS ?_ GE159.out) | exact HB.out))) : w.heap.size ≤ gb160)); have n5_ := Aside0.mk ((by rw [hg]; exact Nat.ne_of_lt (blk_lt (g := gb159) (o := .cells #[.string a0_0, .bool false] 110 (0, 0)) (by (with_reducible repeat first | apply bN | apply bD | apply bA); exact BK159.out)) : gb159 ≠ gb160)); have n6_ := Aside0.mk ((by rw [hg]; exact Nat.ne_of_gt (blk_lt (g := gb159) (o := .cells #[.string a0_0, .bool false] 110 (0, 0)) (by (with_reducible repeat first | apply bN | apply bD | apply bA); exact BK159.out)) : gb160 ≠ gb159)); clear BK159; clear HB; have BK159 := n0_; have HB := n1_; have BK160 := n2_; have GW160 := n3_; have GE160 := n4_; have NB159_160 := n5_; have NB160_159 := n6_; clear n0_ n1_ n2_ n3_ n4_ n5_ n6_; clear hb hbox hg; have hnb34 := NB159_160.out; have hnc34 := NB160_159.out; have hcz35_0 : w33.cell? ⟨gb159, 0, none⟩ = some (.string a0_0) := (bC BK159.out 0).trans rfl; have hcz35_1 : w33.cell? ⟨gb159, 1, none⟩ = some (.bool false) := (bC BK159.out 1).trans rfl; have hfz35_0 := bF BK159.out 0; have hfz35_1 := bF BK159.out 1) | ((with_reducible refine gate_callee (f := 112) rfl ?_); refine goesL_ (some 7) rfl rfl Try.func112 (by kernel_rfl) rfl #[.string a0_0] rfl (by (try simp only [List.map_toArray, List.map_cons, List.map_nil]); first | done | rfl | (simp only [List.length_drop, List.length_take]; rfl)) ?_; (with_reducible refine (weighlockref01_Untext.calls k a0_0 t161 t162 t163 _ A2.out).mono ?_); rintro e w36 ⟨rfl, hb⟩; refine ⟨_, rfl, ?_⟩; have n0_ := Aside0.mk (bB (g := gb159) (o := .cells #[.string a0_0, .bool false] 110 (0, 0)) (by (with_reducible repeat first | apply bN | apply bD | apply bA); exact BK159.out) hb); have n1_ := Aside0.mk (bB (g := gb160) (o := .cells #[.string (⟨#[]⟩ : ByteArray), .bool false] 110 (0, 0)) (by (with_reducible repeat first | apply bN | apply bD | apply bA); exact BK160.out) hb); have n2_ := Aside0.mk (below_step (by repeat (first | (with_reducible first | exact HB.out | apply lA | apply lN | apply lD | refine lS ?_ GE159.out | refine lS ?_ GE160.out) | exact HB.out)) hb); clear BK159; clear BK160; clear HB; have BK159 := n0_; have BK160 := n1_; have HB := n2_; clear n0_ n1_ n2_; (try clear hb); (try clear hb2); (try clear hk); (try clear hi)) | ((with_reducible refine gate_dst (N := 4) rfl ?_); refine box_event ?hg (N := 4) ?hd (cs := #[.string (⟨#[]⟩ : ByteArray), .int .i64 0, .int .i64 0]) (t := 173) ?hr ?_; (case hd => rfl); (case hg => rfl); (case hr => first | (go_simp; done) | (go_simp; rfl)); intro gb164 hg w37 hbox hb; have n0_ := Aside0.mk (bB (g := gb159) (o := .cells #[.string a0_0, .bool false] 110 (0, 0)) (by (with_reducible repeat first | apply bN | apply bD | apply bA); exact BK159.out) hb); have n1_ := Aside0.mk (bB (g := gb160) (o := .cells #[.string (⟨#[]⟩ : ByteArray), .bool false] 110 (0, 0)) (by (with_reducible repeat first | apply bN | apply bD | apply bA); exact BK160.out) hb); have n2_ := Aside0.mk (below_step (by repeat (first | (with_reducible first | exact HB.out | apply lA | apply lN | apply lD | refine lS ?_ GE159.out | refine lS ?_ GE160.out) | exact HB.out)) hb); have n3_ := Aside0.mk (hbox); have n4_ := Aside0.mk ((by rw [hg]; exact (below_size (by repeat (first | (with_reducible first | exact HB.out | apply lA | apply lN | apply lD | refine lS ?_ GE159.out | refine lS ?_ GE160.out) | exact HB.out))) : w.heap.size ≤ gb164)); have n5_ := Aside0.mk ((by rw [hg]; exact (below_size (by repeat (first | (with_reducible first | exact HB.out | apply lA | apply lN | apply lD | refine lS ?_ GE159.out | refine lS ?_ GE160.out) | exact HB.out))) : w.heap.size ≤ gb164)); have n6_ := Aside0.mk ((by rw [hg]; exact Nat.ne_of_lt (blk_lt (g := gb159) (o := .cells #[.string a0_0, .bool false] 110 (0, 0)) (by (with_reducible repeat first | apply bN | apply bD | apply bA); exact BK159.out)) : gb159 ≠ gb164)); have n7_ := Aside0.mk ((by rw [hg]; exact Nat.ne_of_gt (blk_lt (g := gb159) (o := .cells #[.string a0_0, .bool false] 110 (0, 0)) (by (with_reducible repeat first | apply bN | apply bD | apply bA); exact BK159.out)) : gb164 ≠ gb159)); have n8_ := Aside0.mk ((by rw [hg]; exact Nat.ne_of_lt (blk_lt (g := gb160) (o := .cells #[.string (⟨#[]⟩ : ByteArray), .bool false] 110 (0, 0)) (by (with_reducible repeat first | apply bN | apply bD | apply bA); exact BK160.out)) : gb160 ≠ gb164)); have n9_ := Aside0.mk ((by rw [hg]; exact Nat.ne_of_gt (blk_lt (g := gb160) (o := .cells #[.string (⟨#[]⟩ : ByteArray), .bool false] 110 (0, 0)) (by (with_reducible repeat first | apply bN | apply bD | apply bA); exact BK160.out)) : gb164 ≠ gb160)); clear BK159; clear BK160; clear HB; have BK159 := n0_; have BK160 := n1_; have HB := n2_; have BK164 := n3_; have GW164 := n4_; have GE164 := n5_; have NB159_164 := n6_; have NB164_159 := n7_; have NB160_164 := n8_; have NB164_160 := n9_; clear n0_ n1_ n2_ n3_ n4_ n5_ n6_ n7_ n8_ n9_; clear hb hbox hg; have hnb38 := NB164_159.out; have hnc38 := NB159_164.out; have hnb39 := NB164_160.out; have hnc39 := NB160_164.out; have hcz40_0 : w37.cell? ⟨gb164, 0, none⟩ = some (.string (⟨#[]⟩ : ByteArray)) := (bC BK164.out 0).trans rfl; have hcz40_1 : w37.cell? ⟨gb164, 1, none⟩ = some (.int .i64 0) := (bC BK164.out 1).trans rfl; have hcz40_2 : w37.cell? ⟨gb164, 2, none⟩ = some (.int .i64 0) := (bC BK164.out 2).trans rfl; have hfz40_0 := bF BK164.out 0; have hfz40_1 := bF BK164.out 1; have hfz40_2 := bF BK164.out 2; have hcz41_0 : w37.cell? ⟨gb159, 0, none⟩ = some (.string a0_0) := (bC BK159.out 0).trans rfl; have hcz41_1 : w37.cell? ⟨gb159, 1, none⟩ = some (.bool false) := (bC BK159.out 1).trans rfl; have hfz41_0 := bF BK159.out 0; have hfz41_1 := bF BK159.out 1; have hcz42_0 : w37.cell? ⟨gb160, 0, none⟩ = some (.string (⟨#[]⟩ : ByteArray)) := (bC BK160.out 0).trans rfl; have hcz42_1 : w37.cell? ⟨gb160, 1, none⟩ = some (.bool false) := (bC BK160.out 1).trans rfl; have hfz42_0 := bF BK160.out 0; have hfz42_1 := bF BK160.out 1))
   refine bodyPost_ret (results_tc rfl _ _ gb160 110 #[.string (⟨#[]⟩ : ByteArray), .bool true] (0, 0) _ rfl (by (with_reducible repeat first | apply bN | apply bD | apply bA); refine bP (cs := #[.string (⟨#[]⟩ : ByteArray), .bool false]) ?_ 1 _ rfl; (with_reducible repeat first | apply bN | apply bD | apply bA); refine bP (cs := #[.string (⟨#[]⟩ : ByteArray), .bool false]) ?_ 0 _ rfl; (with_reducible repeat first | apply bN | apply bD | apply bA); refine bR ?_ NB160_164.out _; (with_reducible repeat first | apply bN | apply bD | apply bA); refine bR ?_ NB160_164.out _; (with_reducible repeat first | apply bN | apply bD | apply bA); refine bR ?_ NB160_164.out _; (with_reducible repeat first | apply bN | apply bD | apply bA); exact BK160.out) Try.underlying110 rfl (by kernel_rfl)) rfl ?_
   exact ⟨by first | rfl | (simp [errW_none, errW_some] <;> rfl) | (simp [*, errW_none, errW_some] <;> rfl), by repeat (first | (with_reducible first | exact HB.out | apply lA | apply lN | apply lD | refine lS ?_ GE159.out | refine lS ?_ GE160.out | refine lS ?_ GE164.out) | exact HB.out)⟩

/-! ### weighlockref34_reader_number: function 101 -/
def weighlockref34_reader_number.f (k : Nat) (a0_0 : ByteArray) (a0_1 : Bool) : Option (Int × ByteArray × Bool) := (weighlockref01_Unchain.f k a0_0).bind fun bt167 => (if a0_1 = true then (some (0, (⟨#[]⟩ : ByteArray), true)) else (if bt167.2.2 = 0 then (if bt167.1 > 1099511627776 then (some (0, (⟨#[]⟩ : ByteArray), true)) else (if 0 ≤ bt167.2.1 then (if bt167.2.1 ≤ (a0_0.size : Int) then (some (wrap64 (bt167.1), a0_0.extract (bt167.2.1 : Int).toNat a0_0.size, false)) else (none)) else (none))) else (some (0, (⟨#[]⟩ : ByteArray), true))))
theorem weighlockref34_reader_number.mono : ∀ a0 a1 k, LeO (weighlockref34_reader_number.f k a0 a1) (weighlockref34_reader_number.f (k + 1) a0 a1) := by
 intro a0 a1 k
 unfold weighlockref34_reader_number.f
 repeat' first
   | (with_reducible exact weighlockref01_Unchain.mono _ _)
   | (with_reducible exact LeO.refl _)
   | (with_reducible exact LeO.none _)
   | (with_reducible refine LeO.ite ?_ ?_)
   | (with_reducible refine LeO.bind ?_ (fun _ => ?_))
   | exact weighlockref01_Unchain.mono _ _
   | exact LeO.none _
   | refine LeO.ite ?_ ?_
   | refine LeO.bind ?_ (fun _ => ?_)
def weighlockref34_reader_number.T4 : Bool × List (List Nat × List Nat) := (true, [([], []), ([0], [0]), ([1], [1]), ([], []), ([3], [3]), ([], []), ([5], [5]), ([4, 6], [4, 6]), ([7], [7]), ([2, 0, 1, 2], [2]), ([8, 9, 0, 1, 2, 3, 4, 5, 6, 7, 8, 9], [8])])
def weighlockref34_reader_number.B4 : List Nat := [0, 1, 3, 0, 8, 0, 32, 120, 248, 7, 1023]
theorem weighlockref34_reader_number.tab4 : rtab .any (opsOf Try.f101 4) = weighlockref34_reader_number.T4 := by kernel_rfl
theorem weighlockref34_reader_number.bits4 : waitsOk weighlockref34_reader_number.T4.2 weighlockref34_reader_number.B4 = true := by kernel_rfl
set_option maxHeartbeats 8000000 in
set_option maxRecDepth 100000 in
theorem weighlockref34_reader_number.calls (k : Nat) (a0_0 : ByteArray) (a0_1 : Bool) (r1 : Int) (r2 : ByteArray) (r3 : Bool) (w : World) (h : weighlockref34_reader_number.f k a0_0 a0_1 = some (r1, r2, r3)) :
  Calls Try.prog 101 #[.agg #[.string a0_0, .bool a0_1]] w fun e w' => e = .returned (.tuple #[.int .i64 r1, .agg #[.string r2, .bool r3]]) ∧ Below w.heap.size w w' := by
 have hu110 := Try.underlying110
 have hu176 := Try.underlying176
 have HB := Aside0.mk (Below.refl w.heap.size w)
 have H : ((weighlockref01_Unchain.f k a0_0).bind fun bt167 => (if a0_1 = true then (some (0, (⟨#[]⟩ : ByteArray), true)) else (if bt167.2.2 = 0 then (if bt167.1 > 1099511627776 then (some (0, (⟨#[]⟩ : ByteArray), true)) else (if 0 ≤ bt167.2.1 then (if bt167.2.1 ≤ (a0_0.size : Int) then (some (wrap64 (bt167.1), a0_0.extract (bt167.2.1 : Int).toNat a0_0.size, false)) else (none)) else (none))) else (some (0, (⟨#[]⟩ : ByteArray), true))))) = some (r1, r2, r3) := h
 clear h
 replace H := Option.bind_eq_some_iff.mp H
 obtain ⟨⟨t167, t168, t169⟩, A20, H⟩ := H
 replace H : (if a0_1 = true then (some (0, (⟨#[]⟩ : ByteArray), true)) else (if t169 = 0 then (if t167 > 1099511627776 then (some (0, (⟨#[]⟩ : ByteArray), true)) else (if 0 ≤ t168 then (if t168 ≤ (a0_0.size : Int) then (some (wrap64 (t167), a0_0.extract (t168 : Int).toNat a0_0.size, false)) else (none)) else (none))) else (some (0, (⟨#[]⟩ : ByteArray), true)))) = some (r1, r2, r3) := H
 have A2 := Aside0.mk A20
 clear A20
 by_cases c3 : a0_1 = true
 ·subst c3
  have H1 : (some (0, (⟨#[]⟩ : ByteArray), true)) = some (r1, r2, r3) := by rw [if_pos rfl] at H; exact H
  clear H
  have H := H1
  clear H1
  simp only [Option.some.injEq, Prod.mk.injEq] at H
  obtain ⟨rfl, rfl, rfl⟩ := H
  have hund : ∀ b, some undef = some (Value.bool b) → False := fun b h => by simp [undef] at h
  go_enter Try.func101, Try.ntmps101
  go_wp2_with (first | ((with_reducible refine gate_dst (N := 1) rfl ?_); refine box_event ?hg (N := 1) ?hd (cs := #[.string a0_0, .bool true]) (t := 110) ?hr ?_; (case hd => rfl); (case hg => rfl); (case hr => first | (go_simp; done) | (go_simp; rfl)); intro gb165 hg w4 hbox hb; have n0_ := Aside0.mk (below_step (by repeat (first | (with_reducible first | exact HB.out | apply lA | apply lN | apply lD) | exact HB.out)) hb); have n1_ := Aside0.mk (hbox); have n2_ := Aside0.mk ((by rw [hg]; exact (below_size (by repeat (first | (with_reducible first | exact HB.out | apply lA | apply lN | apply lD) | exact HB.out))) : w.heap.size ≤ gb165)); have n3_ := Aside0.mk ((by rw [hg]; exact (below_size (by repeat (first | (with_reducible first | exact HB.out | apply lA | apply lN | apply lD) | exact HB.out))) : w.heap.size ≤ gb165)); clear HB; have HB := n0_; have BK165 := n1_; have GW165 := n2_; have GE165 := n3_; clear n0_ n1_ n2_ n3_; clear hb hbox hg) | ((with_reducible refine gate_dst (N := 3) rfl ?_); refine box_event ?hg (N := 3) ?hd (cs := #[.string (⟨#[]⟩ : ByteArray), .bool false]) (t := 110) ?hr ?_; (case hd => rfl); (case hg => rfl); (case hr => first | (go_simp; done) | (go_simp; rfl)); intro gb166 hg w5 hbox hb; have n0_ := Aside0.mk (bB (g := gb165) (o := .cells #[.string a0_0, .bool true] 110 (0, 0)) (by (with_reducible repeat first | apply bN | apply bD | apply bA); exact BK165.out) hb); have n1_ := Aside0.mk (below_step (by repeat (first | (with_reducible first | exact HB.out | apply lA | apply lN | apply lD | refine lS ?_ GE165.out) | exact HB.out)) hb); have n2_ := Aside0.mk (hbox); have n3_ := Aside0.mk ((by rw [hg]; exact (below_size (by repeat (first | (with_reducible first | exact HB.out | apply lA | apply lN | apply lD | refine lS ?_ GE165.out) | exact HB.out))) : w.heap.size ≤ gb166)); have n4_ := Aside0.mk ((by rw [hg]; exact (below_size (by repeat (first | (with_reducible first | exact HB.out | apply lA | apply lN | apply lD | refine lS ?_ GE165.out) | exact HB.out))) : w.heap.size ≤ gb166)); have n5_ := Aside0.mk ((by rw [hg]; exact Nat.ne_of_lt (blk_lt (g := gb165) (o := .cells #[.string a0_0, .bool true] 110 (0, 0)) (by (with_reducible repeat first | apply bN | apply bD | apply bA); exact BK165.out)) : gb165 ≠ gb166)); have n6_ := Aside0.mk ((by rw [hg]; exact Nat.ne_of_gt (blk_lt (g := gb165) (o := .cells #[.string a0_0, .bool true] 110 (0, 0)) (by (with_reducible repeat first | apply bN | apply bD | apply bA); exact BK165.out)) : gb166 ≠ gb165)); clear BK165; clear HB; have BK165 := n0_; have HB := n1_; have BK166 := n2_; have GW166 := n3_; have GE166 := n4_; have NB165_166 := n5_; have NB166_165 := n6_; clear n0_ n1_ n2_ n3_ n4_ n5_ n6_; clear hb hbox hg; have hnb6 := NB165_166.out; have hnc6 := NB166_165.out; have hcz7_0 : w5.cell? ⟨gb165, 0, none⟩ = some (.string a0_0) := (bC BK165.out 0).trans rfl; have hcz7_1 : w5.cell? ⟨gb165, 1, none⟩ = some (.bool true) := (bC BK165.out 1).trans rfl; have hfz7_0 := bF BK165.out 0; have hfz7_1 := bF BK165.out 1) | ((with_reducible refine gate_callee (f := 113) rfl ?_); refine goesL_ (some 7) rfl rfl Try.func113 (by kernel_rfl) rfl #[.string a0_0] rfl (by (try simp only [List.map_toArray, List.map_cons, List.map_nil]); first | done | rfl | (simp only [List.length_drop, List.length_take]; rfl)) ?_; (with_reducible refine (weighlockref01_Unchain.calls k a0_0 t167 t168 t169 _ A2.out).mono ?_); rintro e w8 ⟨rfl, hb⟩; refine ⟨_, rfl, ?_⟩; have n0_ := Aside0.mk (bB (g := gb165) (o := .cells #[.string a0_0, .bool true] 110 (0, 0)) (by (with_reducible repeat first | apply bN | apply bD | apply bA); exact BK165.out) hb); have n1_ := Aside0.mk (bB (g := gb166) (o := .cells #[.string (⟨#[]⟩ : ByteArray), .bool false] 110 (0, 0)) (by (with_reducible repeat first | apply bN | apply bD | apply bA); exact BK166.out) hb); have n2_ := Aside0.mk (below_step (by repeat (first | (with_reducible first | exact HB.out | apply lA | apply lN | apply lD | refine lS ?_ GE165.out | refine lS ?_ GE166.out) | exact HB.out)) hb); clear BK165; clear BK166; clear HB; have BK165 := n0_; have BK166 := n1_; have HB := n2_; clear n0_ n1_ n2_; (try clear hb); (try clear hb2); (try clear hk); (try clear hi)) | ((with_reducible refine gate_dst (N := 4) rfl ?_); refine box_event ?hg (N := 4) ?hd (cs := #[.int .u64 0, .int .i64 0, .int .i64 0]) (t := 176) ?hr ?_; (case hd => rfl); (case hg => rfl); (case hr => first | (go_simp; done) | (go_simp; rfl)); intro gb170 hg w9 hbox hb; have n0_ := Aside0.mk (bB (g := gb165) (o := .cells #[.string a0_0, .bool true] 110 (0, 0)) (by (with_reducible repeat first | apply bN | apply bD | apply bA); exact BK165.out) hb); have n1_ := Aside0.mk (bB (g := gb166) (o := .cells #[.string (⟨#[]⟩ : ByteArray), .bool false] 110 (0, 0)) (by (with_reducible repeat first | apply bN | apply bD | apply bA); exact BK166.out) hb); have n2_ := Aside0.mk (below_step (by repeat (first | (with_reducible first | exact HB.out | apply lA | apply lN | apply lD | refine lS ?_ GE165.out | refine lS ?_ GE166.out) | exact HB.out)) hb); have n3_ := Aside0.mk (hbox); have n4_ := Aside0.mk ((by rw [hg]; exact (below_size (by repeat (first | (with_reducible first | exact HB.out | apply lA | apply lN | apply lD | refine lS ?_ GE165.out | refine lS ?_ GE166.out) | exact HB.out))) : w.heap.size ≤ gb170)); have n5_ := Aside0.mk ((by rw [hg]; exact (below_size (by repeat (first | (with_reducible first | exact HB.out | apply lA | apply lN | apply lD | refine lS ?_ GE165.out | refine lS ?_ GE166.out) | exact HB.out))) : w.heap.size ≤ gb170)); have n6_ := Aside0.mk ((by rw [hg]; exact Nat.ne_of_lt (blk_lt (g := gb165) (o := .cells #[.string a0_0, .bool true] 110 (0, 0)) (by (with_reducible repeat first | apply bN | apply bD | apply bA); exact BK165.out)) : gb165 ≠ gb170)); have n7_ := Aside0.mk ((by rw [hg]; exact Nat.ne_of_gt (blk_lt (g := gb165) (o := .cells #[.string a0_0, .bool true] 110 (0, 0)) (by (with_reducible repeat first | apply bN | apply bD | apply bA); exact BK165.out)) : gb170 ≠ gb165)); have n8_ := Aside0.mk ((by rw [hg]; exact Nat.ne_of_lt (blk_lt (g := gb166) (o := .cells #[.string (⟨#[]⟩ : ByteArray), .bool false] 110 (0, 0)) (by (with_reducible repeat first | apply bN | apply bD | apply bA); exact BK166.out)) : gb166 ≠ gb170)); have n9_ := Aside0.mk ((by rw [hg]; exact Nat.ne_of_gt (blk_lt (g := gb166) (o := .cells #[.string (⟨#[]⟩ : ByteArray), .bool false] 110 (0, 0)) (by (with_reducible repeat first | apply bN | apply bD | apply bA); exact BK166.out)) : gb170 ≠ gb166)); clear BK165; clear BK166; clear HB; have BK165 := n0_; have BK166 := n1_; have HB := n2_; have BK170 := n3_; have GW170 := n4_; have GE170 := n5_; have NB165_170 := n6_; have NB170_165 := n7_; have NB166_170 := n8_; have NB170_166 := n9_; clear n0_ n1_ n2_ n3_ n4_ n5_ n6_ n7_ n8_ n9_; clear hb hbox hg; have hnb10 := NB170_165.out; have hnc10 := NB165_170.out; have hnb11 := NB170_166.out; have hnc11 := NB166_170.out; have hcz12_0 : w9.cell? ⟨gb170, 0, none⟩ = some (.int .u64 0) := (bC BK170.out 0).trans rfl; have hcz12_1 : w9.cell? ⟨gb170, 1, none⟩ = some (.int .i64 0) := (bC BK170.out 1).trans rfl; have hcz12_2 : w9.cell? ⟨gb170, 2, none⟩ = some (.int .i64 0) := (bC BK170.out 2).trans rfl; have hfz12_0 := bF BK170.out 0; have hfz12_1 := bF BK170.out 1; have hfz12_2 := bF BK170.out 2; have hcz13_0 : w9.cell? ⟨gb165, 0, none⟩ = some (.string a0_0) := (bC BK165.out 0).trans rfl; have hcz13_1 : w9.cell? ⟨gb165, 1, none⟩ = some (.bool true) := (bC BK165.out 1).trans rfl; have hfz13_0 := bF BK165.out 0; have hfz13_1 := bF BK165.out 1; have hcz14_0 : w9.cell? ⟨gb166, 0, none⟩ = some (.string (⟨#[]⟩ : ByteArray)) := (bC BK166.out 0).trans rfl; have hcz14_1 : w9.cell? ⟨gb166, 1, none⟩ = some (.bool false) := (bC BK166.out 1).trans rfl; have hfz14_0 := bF BK166.out 0; have hfz14_1 := bF BK166.out 1))
  refine bodyPost_ret (results_tc rfl _ _ gb166 110 #[.string (⟨#[]⟩ : ByteArray), .bool true] (0, 0) _ rfl (by (with_reducible repeat first | apply bN | apply bD | apply bA); refine bP (cs := #[.string (⟨#[]⟩ : ByteArray), .bool false]) ?_ 1 _ rfl; (with_reducible repeat first | apply bN | apply bD | apply bA); refine bP (cs := #[.string (⟨#[]⟩ : ByteArray), .bool false]) ?_ 0 _ rfl; (with_reducible repeat first | apply bN | apply bD | apply bA); refine bR ?_ NB166_170.out _; (with_reducible repeat first | apply bN | apply bD | apply bA); refine bR ?_ NB166_170.out _; (with_reducible repeat first | apply bN | apply bD | apply bA); refine bR ?_ NB166_170.out _; (with_reducible repeat first | apply bN | apply bD | apply bA); exact BK166.out) Try.underlying110 rfl (by kernel_rfl)) rfl ?_
  exact ⟨by first | rfl | (simp [errW_none, errW_some] <;> rfl) | (simp [*, errW_none, errW_some] <;> rfl), by repeat (first | (with_reducible first | exact HB.out | apply lA | apply lN | apply lD | refine lS ?_ GE165.out | refine lS ?_ GE166.out | refine lS ?_ GE170.out) | exact HB.out)⟩
 ·replace c3 := Bool.eq_false_iff.mpr c3
  subst c3
  have H1 : (if t169 = 0 then (if t167 > 1099511627776 then (some (0, (⟨#[]⟩ : ByteArray), true)) else (if 0 ≤ t168 then (if t168 ≤ (a0_0.size : Int) then (some (wrap64 (t167), a0_0.extract (t168 : Int).toNat a0_0.size, false)) else (none)) else (none))) else (some (0, (⟨#[]⟩ : ByteArray), true))) = some (r1, r2, r3) := by rw [if_neg (show ¬ (false = true) by decide)] at H; exact H
  clear H
  have H := H1
  clear H1
  by_cases c15 : t169 = 0
  ·rw [if_pos c15] at H
   have c15b0 : (t169 == 0) = true := beq_iff_eq.mpr c15
   have c15b1 : (t169 != 0) = false := bne_eq_false_iff_eq.mpr c15
   clear c15
   by_cases c16 : t167 > 1099511627776
   ·rw [if_pos c16] at H
    have c16b0 : decide (1099511627776 < t167) = true := decide_eq_true c16
    clear c16
    simp only [Option.some.injEq, Prod.mk.injEq] at H
    obtain ⟨rfl, rfl, rfl⟩ := H
    have hund : ∀ b, some undef = some (Value.bool b) → False := fun b h => by simp [undef] at h
    go_enter Try.func101, Try.ntmps101
    go_wp2_with (first | ((with_reducible refine gate_dst (N := 1) rfl ?_); refine box_event ?hg (N := 1) ?hd (cs := #[.string a0_0, .bool false]) (t := 110) ?hr ?_; (case hd => rfl); (case hg => rfl); (case hr => first | (go_simp; done) | (go_simp; rfl)); intro gb165 hg w17 hbox hb; have n0_ := Aside0.mk (below_step (by repeat (first | (with_reducible first | exact HB.out | apply lA | apply lN | apply lD) | exact HB.out)) hb); have n1_ := Aside0.mk (hbox); have n2_ := Aside0.mk ((by rw [hg]; exact (below_size (by repeat (first | (with_reducible first | exact HB.out | apply lA | apply lN | apply lD) | exact HB.out))) : w.heap.size ≤ gb165)); have n3_ := Aside0.mk ((by rw [hg]; exact (below_size (by repeat (first | (with_reducible first | exact HB.out | apply lA | apply lN | apply lD) | exact HB.out))) : w.heap.size ≤ gb165)); clear HB; have HB := n0_; have BK165 := n1_; have GW165 := n2_; have GE165 := n3_; clear n0_ n1_ n2_ n3_; clear hb hbox hg) | ((with_reducible refine gate_dst (N := 3) rfl ?_); refine box_event ?hg (N := 3) ?hd (cs := #[.string (⟨#[]⟩ : ByteArray), .bool false]) (t := 110) ?hr ?_; (case hd => rfl); (case hg => rfl); (case hr => first | (go_simp; done) | (go_simp; rfl)); intro gb166 hg w18 hbox hb; have n0_ := Aside0.mk (bB (g := gb165) (o := .cells #[.string a0_0, .bool false] 110 (0, 0)) (by (with_reducible repeat first | apply bN | apply bD | apply bA); exact BK165.out) hb); have n1_ := Aside0.mk (below_step (by repeat (first | (with_reducible first | exact HB.out | apply lA | apply lN | apply lD | refine lS ?_ GE165.out) | exact HB.out)) hb); have n2_ := Aside0.mk (hbox); have n3_ := Aside0.mk ((by rw [hg]; exact (below_size (by repeat (first | (with_reducible first | exact HB.out | apply lA | apply lN | apply lD | refine lS ?_ GE165.out) | exact HB.out))) : w.heap.size ≤ gb166)); have n4_ := Aside0.mk ((by rw [hg]; exact (below_size (by repeat (first | (with_reducible first | exact HB.out | apply lA | apply lN | apply lD | refine lS ?_ GE165.out) | exact HB.out))) : w.heap.size ≤ gb166)); have n5_ := Aside0.mk ((by rw [hg]; exact Nat.ne_of_lt (blk_lt (g := gb165) (o := .cells #[.string a0_0, .bool false] 110 (0, 0)) (by (with_reducible repeat first | apply bN | apply bD | apply bA); exact BK165.out)) : gb165 ≠ gb166)); have n6_ := Aside0.mk ((by rw [hg]; exact Nat.ne_of_gt (blk_lt (g := gb165) (o := .cells #[.string a0_0, .bool false] 110 (0, 0)) (by (with_reducible repeat first | apply bN | apply bD | apply bA); exact BK165.out)) : gb166 ≠ gb165)); clear BK165; clear HB; have BK165 := n0_; have HB := n1_; have BK166 := n2_; have GW166 := n3_; have GE166 := n4_; have NB165_166 := n5_; have NB166_165 := n6_; clear n0_ n1_ n2_ n3_ n4_ n5_ n6_; clear hb hbox hg; have hnb19 := NB165_166.out; have hnc19 := NB166_165.out; have hcz20_0 : w18.cell? ⟨gb165, 0, none⟩ = some (.string a0_0) := (bC BK165.out 0).trans rfl; have hcz20_1 : w18.cell? ⟨gb165, 1, none⟩ = some (.bool false) := (bC BK165.out 1).trans rfl; have hfz20_0 := bF BK165.out 0; have hfz20_1 := bF BK165.out 1) | ((with_reducible refine gate_callee (f := 113) rfl ?_); refine goesL_ (some 7) rfl rfl Try.func113 (by kernel_rfl) rfl #[.string a0_0] rfl (by (try simp only [List.map_toArray, List.map_cons, List.map_nil]); first | done | rfl | (simp only [List.length_drop, List.length_take]; rfl)) ?_; (with_reducible refine (weighlockref01_Unchain.calls k a0_0 t167 t168 t169 _ A2.out).mono ?_); rintro e w21 ⟨rfl, hb⟩; refine ⟨_, rfl, ?_⟩; have n0_ := Aside0.mk (bB (g := gb165) (o := .cells #[.string a0_0, .bool false] 110 (0, 0)) (by (with_reducible repeat first | apply bN | apply bD | apply bA); exact BK165.out) hb); have n1_ := Aside0.mk (bB (g := gb166) (o := .cells #[.string (⟨#[]⟩ : ByteArray), .bool false] 110 (0, 0)) (by (with_reducible repeat first | apply bN | apply bD | apply bA); exact BK166.out) hb); have n2_ := Aside0.mk (below_step (by repeat (first | (with_reducible first | exact HB.out | apply lA | apply lN | apply lD | refine lS ?_ GE165.out | refine lS ?_ GE166.out) | exact HB.out)) hb); clear BK165; clear BK166; clear HB; have BK165 := n0_; have BK166 := n1_; have HB := n2_; clear n0_ n1_ n2_; (try clear hb); (try clear hb2); (try clear hk); (try clear hi)) | ((with_reducible refine gate_dst (N := 4) rfl ?_); refine box_event ?hg (N := 4) ?hd (cs := #[.int .u64 0, .int .i64 0, .int .i64 0]) (t := 176) ?hr ?_; (case hd => rfl); (case hg => rfl); (case hr => first | (go_simp; done) | (go_simp; rfl)); intro gb170 hg w22 hbox hb; have n0_ := Aside0.mk (bB (g := gb165) (o := .cells #[.string a0_0, .bool false] 110 (0, 0)) (by (with_reducible repeat first | apply bN | apply bD | apply bA); exact BK165.out) hb); have n1_ := Aside0.mk (bB (g := gb166) (o := .cells #[.string (⟨#[]⟩ : ByteArray), .bool false] 110 (0, 0)) (by (with_reducible repeat first | apply bN | apply bD | apply bA); exact BK166.out) hb); have n2_ := Aside0.mk (below_step (by repeat (first | (with_reducible first | exact HB.out | apply lA | apply lN | apply lD | refine lS ?_ GE165.out | refine lS ?_ GE166.out) | exact HB.out)) hb); have n3_ := Aside0.mk (hbox); have n4_ := Aside0.mk ((by rw [hg]; exact (below_size (by repeat (first | (with_reducible first | exact HB.out | apply lA | apply lN | apply lD | refine lS ?_ GE165.out | refine lS ?_ GE166.out) | exact HB.out))) : w.heap.size ≤ gb170)); have n5_ := Aside0.mk ((by rw [hg]; exact (below_size (by repeat (first | (with_reducible first | exact HB.out | apply lA | apply lN | apply lD | refine lS ?_ GE165.out | refine lS ?_ GE166.out) | exact HB.out))) : w.heap.size ≤ gb170)); have n6_ := Aside0.mk ((by rw [hg]; exact Nat.ne_of_lt (blk_lt (g := gb165) (o := .cells #[.string a0_0, .bool false] 110 (0, 0)) (by (with_reducible repeat first | apply bN | apply bD | apply bA); exact BK165.out)) : gb165 ≠ gb170)); have n7_ := Aside0.mk ((by rw [hg]; exact Nat.ne_of_gt (blk_lt (g := gb165) (o := .cells #[.string a0_0, .bool false] 110 (0, 0)) (by (with_reducible repeat first | apply bN | apply bD | apply bA); exact BK165.out)) : gb170 ≠ gb165)); have n8_ := Aside0.mk ((by rw [hg]; exact Nat.ne_of_lt (blk_lt (g := gb166) (o := .cells #[.string (⟨#[]⟩ : ByteArray), .bool false] 110 (0, 0)) (by (with_reducible repeat first | apply bN | apply bD | apply bA); exact BK166.out)) : gb166 ≠ gb170)); have n9_ := Aside0.mk ((by rw [hg]; exact Nat.ne_of_gt (blk_lt (g := gb166) (o := .cells #[.string (⟨#[]⟩ : ByteArray), .bool false] 110 (0, 0)) (by (with_reducible repeat first | apply bN | apply bD | apply bA); exact BK166.out)) : gb170 ≠ gb166)); clear BK165; clear BK166; clear HB; have BK165 := n0_; have BK166 := n1_; have HB := n2_; have BK170 := n3_; have GW170 := n4_; have GE170 := n5_; have NB165_170 := n6_; have NB170_165 := n7_; have NB166_170 := n8_; have NB170_166 := n9_; clear n0_ n1_ n2_ n3_ n4_ n5_ n6_ n7_ n8_ n9_; clear hb hbox hg; have hnb23 := NB170_165.out; have hnc23 := NB165_170.out; have hnb24 := NB170_166.out; have hnc24 := NB166_170.out; have hcz25_0 : w22.cell? ⟨gb170, 0, none⟩ = some (.int .u64 0) := (bC BK170.out 0).trans rfl; have hcz25_1 : w22.cell? ⟨gb170, 1, none⟩ = some (.int .i64 0) := (bC BK170.out 1).trans rfl; have hcz25_2 : w22.cell? ⟨gb170, 2, none⟩ = some (.int .i64 0) := (bC BK170.out 2).trans rfl; have hfz25_0 := bF BK170.out 0; have hfz25_1 := bF BK170.out 1; have hfz25_2 := bF BK170.out 2; have hcz26_0 : w22.cell? ⟨gb165, 0, none⟩ = some (.string a0_0) := (bC BK165.out 0).trans rfl; have hcz26_1 : w22.cell? ⟨gb165, 1, none⟩ = some (.bool false) := (bC BK165.out 1).trans rfl; have hfz26_0 := bF BK165.out 0; have hfz26_1 := bF BK165.out 1; have hcz27_0 : w22.cell? ⟨gb166, 0, none⟩ = some (.string (⟨#[]⟩ : ByteArray)) := (bC BK166.out 0).trans rfl; have hcz27_1 : w22.cell? ⟨gb166, 1, none⟩ = some (.bool false) := (bC BK166.out 1).trans rfl; have hfz27_0 := bF BK166.out 0; have hfz27_1 := bF BK166.out 1))
    refine bodyPost_ret (results_tc rfl _ _ gb166 110 #[.string (⟨#[]⟩ : ByteArray), .bool true] (0, 0) _ rfl (by (with_reducible repeat first | apply bN | apply bD | apply bA); refine bP (cs := #[.string (⟨#[]⟩ : ByteArray), .bool false]) ?_ 1 _ rfl; (with_reducible repeat first | apply bN | apply bD | apply bA); refine bP (cs := #[.string (⟨#[]⟩ : ByteArray), .bool false]) ?_ 0 _ rfl; (with_reducible repeat first | apply bN | apply bD | apply bA); refine bR ?_ NB166_170.out _; (with_reducible repeat first | apply bN | apply bD | apply bA); refine bR ?_ NB166_170.out _; (with_reducible repeat first | apply bN | apply bD | apply bA); refine bR ?_ NB166_170.out _; (with_reducible repeat first | apply bN | apply bD | apply bA); exact BK166.out) Try.underlying110 rfl (by kernel_rfl)) rfl ?_
    exact ⟨by first | rfl | (simp [errW_none, errW_some] <;> rfl) | (simp [*, errW_none, errW_some] <;> rfl), by repeat (first | (with_reducible first | exact HB.out | apply lA | apply lN | apply lD | refine lS ?_ GE165.out | refine lS ?_ GE166.out | refine lS ?_ GE170.out) | exact HB.out)⟩
   ·rw [if_neg c16] at H
    have c16b0 : decide (1099511627776 < t167) = false := decide_eq_false c16
    clear c16
    by_cases c28 : 0 ≤ t168
    ·rw [if_pos c28] at H
     have c28b0 := eq_true c28
     have c28b1 : decide (0 ≤ t168) = true := decide_eq_true c28
     clear c28
     by_cases c29 : t168 ≤ (a0_0.size : Int)
     ·rw [if_pos c29] at H
      have c29b0 := eq_true c29
      have c29b1 : decide (t168 ≤ (a0_0.size : Int)) = true := decide_eq_true c29
      clear c29
      simp only [Option.some.injEq, Prod.mk.injEq] at H
      obtain ⟨rfl, rfl, rfl⟩ := H
      have hund : ∀ b, some undef = some (Value.bool b) → False := fun b h => by simp [undef] at h
      go_enter Try.func101, Try.ntmps101
      try go_wp2_with (first | ((with_reducible refine gate_dst (N := 1) rfl ?_); refine box_event ?hg (N := 1) ?hd (cs := #[.string a0_0, .bool false]) (t := 110) ?hr ?_; (case hd => rfl); (case hg => rfl); (case hr => first | (go_simp; done) | (go_simp; rfl)); intro gb165 hg w30 hbox hb; have n0_ := Aside0.mk (below_step (by repeat (first | (with_reducible first | exact HB.out | apply lA | apply lN | apply lD) | exact HB.out)) hb); have n1_ := Aside0.mk (hbox); have n2_ := Aside0.mk ((by rw [hg]; exact (below_size (by repeat (first | (with_reducible first | exact HB.out | apply lA | apply lN | apply lD) | exact HB.out))) : w.heap.size ≤ gb165)); have n3_ := Aside0.mk ((by rw [hg]; exact (below_size (by repeat (first | (with_reducible first | exact HB.out | apply lA | apply lN | apply lD) | exact HB.out))) : w.heap.size ≤ gb165)); clear HB; have HB := n0_; have BK165 := n1_; have GW165 := n2_; have GE165 := n3_; clear n0_ n1_ n2_ n3_; clear hb hbox hg) | ((with_reducible refine gate_dst (N := 3) rfl ?_); refine box_event ?hg (N := 3) ?hd (cs := #[.string (⟨#[]⟩ : ByteArray), .bool false]) (t := 110) ?hr ?_; (case hd => rfl); (case hg => rfl); (case hr => first | (go_simp; done) | (go_simp; rfl)); intro gb166 hg w31 hbox hb; have n0_ := Aside0.mk (bB (g := gb165) (o := .cells #[.string a0_0, .bool false] 110 (0, 0)) (by (with_reducible repeat first | apply bN | apply bD | apply bA); exact BK165.out) hb); have n1_ := Aside0.mk (below_step (by repeat (first | (with_reducible first | exact HB.out | apply lA | apply lN | apply lD | refine lS ?_ GE165.out) | exact HB.out)) hb); have n2_ := Aside0.mk (hbox); have n3_ := Aside0.mk ((by rw [hg]; exact (below_size (by repeat (first | (with_reducible first | exact HB.out | apply lA | apply lN | apply lD | refine lS ?_ GE165.out) | exact HB.out))) : w.heap.size ≤ gb166)); have n4_ := Aside0.mk ((by rw [hg]; exact (below_size (by repeat (first | (with_reducible first | exact HB.out | apply lA | apply lN | apply lD | refine lS ?_ GE165.out) | exact HB.out))) : w.heap.size ≤ gb166)); have n5_ := Aside0.mk ((by rw [hg]; exact Nat.ne_of_lt (blk_lt (g := gb165) (o := .cells #[.string a0_0, .bool false] 110 (0, 0)) (by (with_reducible repeat first | apply bN | apply bD | apply bA); exact BK165.out)) : gb165 ≠ gb166)); have n6_ := Aside0.mk ((by rw [hg]; exact Nat.ne_of_gt (blk_lt (g := gb165) (o := .cells #[.string a0_0, .bool false] 110 (0, 0)) (by (with_reducible repeat first | apply bN | apply bD | apply bA); exact BK165.out)) : gb166 ≠ gb165)); clear BK165; clear HB; have BK165 := n0_; have HB := n1_; have BK166 := n2_; have GW166 := n3_; have GE166 := n4_; have NB165_166 := n5_; have NB166_165 := n6_; clear n0_ n1_ n2_ n3_ n4_ n5_ n6_; clear hb hbox hg; have hnb32 := NB165_166.out; have hnc32 := NB166_165.out; have hcz33_0 : w31.cell? ⟨gb165, 0, none⟩ = some (.string a0_0) := (bC BK165.out 0).trans rfl; have hcz33_1 : w31.cell? ⟨gb165, 1, none⟩ = some (.bool false) := (bC BK165.out 1).trans rfl; have hfz33_0 := bF BK165.out 0; have hfz33_1 := bF BK165.out 1) | ((with_reducible refine gate_callee (f := 113) rfl ?_); refine goesL_ (some 7) rfl rfl Try.func113 (by kernel_rfl) rfl #[.string a0_0] rfl (by (try simp only [List.map_toArray, List.map_cons, List.map_nil]); first | done | rfl | (simp only [List.length_drop, List.length_take]; rfl)) ?_; (with_reducible refine (weighlockref01_Unchain.calls k a0_0 t167 t168 t169 _ A2.out).mono ?_); rintro e w34 ⟨rfl, hb⟩; refine ⟨_, rfl, ?_⟩; have n0_ := Aside0.mk (bB (g := gb165) (o := .cells #[.string a0_0, .bool false] 110 (0, 0)) (by (with_reducible repeat first | apply bN | apply bD | apply bA); exact BK165.out) hb); have n1_ := Aside0.mk (bB (g := gb166) (o := .cells #[.string (⟨#[]⟩ : ByteArray), .bool false] 110 (0, 0)) (by (with_reducible repeat first | apply bN | apply bD | apply bA); exact BK166.out) hb); have n2_ := Aside0.mk (below_step (by repeat (first | (with_reducible first | exact HB.out | apply lA | apply lN | apply lD | refine lS ?_ GE165.out | refine lS ?_ GE166.out) | exact HB.out)) hb); clear BK165; clear BK166; clear HB; have BK165 := n0_; have BK166 := n1_; have HB := n2_; clear n0_ n1_ n2_; (try clear hb); (try clear hb2); (try clear hk); (try clear hi)) | ((with_reducible refine gate_dst (N := 4) rfl ?_); refine box_event ?hg (N := 4) ?hd (cs := #[.int .u64 0, .int .i64 0, .int .i64 0]) (t := 176) ?hr ?_; (case hd => rfl); (case hg => rfl); (case hr => first | (go_simp; done) | (go_simp; rfl)); intro gb170 hg w35 hbox hb; have n0_ := Aside0.mk (bB (g := gb165) (o := .cells #[.string a0_0, .bool false] 110 (0, 0)) (by (with_reducible repeat first | apply bN | apply bD | apply bA); exact BK165.out) hb); have n1_ := Aside0.mk (bB (g := gb166) (o := .cells #[.string (⟨#[]⟩ : ByteArray), .bool false] 110 (0, 0)) (by (with_reducible repeat first | apply bN | apply bD | apply bA); exact BK166.out) hb); have n2_ := Aside0.mk (below_step (by repeat (first | (with_reducible first | exact HB.out | apply lA | apply lN | apply lD | refine lS ?_ GE165.out | refine lS ?_ GE166.out) | exact HB.out)) hb); have n3_ := Aside0.mk (hbox); have n4_ := Aside0.mk ((by rw [hg]; exact (below_size (by repeat (first | (with_reducible first | exact HB.out | apply lA | apply lN | apply lD | refine lS ?_ GE165.out | refine lS ?_ GE166.out) | exact HB.out))) : w.heap.size ≤ gb170)); have n5_ := Aside0.mk ((by rw [hg]; exact (below_size (by repeat (first | (with_reducible first | exact HB.out | apply lA | apply lN | apply lD | refine lS ?_ GE165.out | refine lS ?_ GE166.out) | exact HB.out))) : w.heap.size ≤ gb170)); have n6_ := Aside0.mk ((by rw [hg]; exact Nat.ne_of_lt (blk_lt (g := gb165) (o := .cells #[.string a0_0, .bool false] 110 (0, 0)) (by (with_reducible repeat first | apply bN | apply bD | apply bA); exact BK165.out)) : gb165 ≠ gb170)); have n7_ := Aside0.mk ((by rw [hg]; exact Nat.ne_of_gt (blk_lt (g := gb165) (o := .cells #[.string a0_0, .bool false] 110 (0, 0)) (by (with_reducible repeat first | apply bN | apply bD | apply bA); exact BK165.out)) : gb170 ≠ gb165)); have n8_ := Aside0.mk ((by rw [hg]; exact Nat.ne_of_lt (blk_lt (g := gb166) (o := .cells #[.string (⟨#[]⟩ : ByteArray), .bool false] 110 (0, 0)) (by (with_reducible repeat first | apply bN | apply bD | apply bA); exact BK166.out)) : gb166 ≠ gb170)); have n9_ := Aside0.mk ((by rw [hg]; exact Nat.ne_of_gt (blk_lt (g := gb166) (o := .cells #[.string (⟨#[]⟩ : ByteArray), .bool false] 110 (0, 0)) (by (with_reducible repeat first | apply bN | apply bD | apply bA); exact BK166.out)) : gb170 ≠ gb166)); clear BK165; clear BK166; clear HB; have BK165 := n0_; have BK166 := n1_; have HB := n2_; have BK170 := n3_; have GW170 := n4_; have GE170 := n5_; have NB165_170 := n6_; have NB170_165 := n7_; have NB166_170 := n8_; have NB170_166 := n9_; clear n0_ n1_ n2_ n3_ n4_ n5_ n6_ n7_ n8_ n9_; clear hb hbox hg; have hnb36 := NB170_165.out; have hnc36 := NB165_170.out; have hnb37 := NB170_166.out; have hnc37 := NB166_170.out; have hcz38_0 : w35.cell? ⟨gb170, 0, none⟩ = some (.int .u64 0) := (bC BK170.out 0).trans rfl; have hcz38_1 : w35.cell? ⟨gb170, 1, none⟩ = some (.int .i64 0) := (bC BK170.out 1).trans rfl; have hcz38_2 : w35.cell? ⟨gb170, 2, none⟩ = some (.int .i64 0) := (bC BK170.out 2).trans rfl; have hfz38_0 := bF BK170.out 0; have hfz38_1 := bF BK170.out 1; have hfz38_2 := bF BK170.out 2; have hcz39_0 : w35.cell? ⟨gb165, 0, none⟩ = some (.string a0_0) := (bC BK165.out 0).trans rfl; have hcz39_1 : w35.cell? ⟨gb165, 1, none⟩ = some (.bool false) := (bC BK165.out 1).trans rfl; have hfz39_0 := bF BK165.out 0; have hfz39_1 := bF BK165.out 1))
      have n0_ : Aside0 ((((w35.setCell ⟨gb170, 0, none⟩ (.int .u64 t167)).setCell ⟨gb170, 1, none⟩ (.int .i64 t168)).setCell ⟨gb170, 2, none⟩ (.int .i64 t169)).heap[gb165]? = some (.cells #[.string a0_0, .bool false] 110 (0, 0))) := ⟨by (with_reducible repeat first | apply bN | apply bD | apply bA); refine bR ?_ NB165_170.out _; (with_reducible repeat first | apply bN | apply bD | apply bA); refine bR ?_ NB165_170.out _; (with_reducible repeat first | apply bN | apply bD | apply bA); refine bR ?_ NB165_170.out _; (with_reducible repeat first | apply bN | apply bD | apply bA); exact BK165.out⟩
      have n1_ : Aside0 ((((w35.setCell ⟨gb170, 0, none⟩ (.int .u64 t167)).setCell ⟨gb170, 1, none⟩ (.int .i64 t168)).setCell ⟨gb170, 2, none⟩ (.int .i64 t169)).heap[gb166]? = some (.cells #[.string (⟨#[]⟩ : ByteArray), .bool false] 110 (0, 0))) := ⟨by (with_reducible repeat first | apply bN | apply bD | apply bA); refine bR ?_ NB166_170.out _; (with_reducible repeat first | apply bN | apply bD | apply bA); refine bR ?_ NB166_170.out _; (with_reducible repeat first | apply bN | apply bD | apply bA); refine bR ?_ NB166_170.out _; (with_reducible repeat first | apply bN | apply bD | apply bA); exact BK166.out⟩
      have n2_ : Aside0 ((((w35.setCell ⟨gb170, 0, none⟩ (.int .u64 t167)).setCell ⟨gb170, 1, none⟩ (.int .i64 t168)).setCell ⟨gb170, 2, none⟩ (.int .i64 t169)).heap[gb170]? = some (.cells #[.int .u64 t167, .int .i64 t168, .int .i64 t169] 176 (0, 0))) := ⟨by (with_reducible repeat first | apply bN | apply bD | apply bA); refine bP (cs := #[.int .u64 t167, .int .i64 t168, .int .i64 0]) ?_ 2 _ rfl; (with_reducible repeat first | apply bN | apply bD | apply bA); refine bP (cs := #[.int .u64 t167, .int .i64 0, .int .i64 0]) ?_ 1 _ rfl; (with_reducible repeat first | apply bN | apply bD | apply bA); refine bP (cs := #[.int .u64 0, .int .i64 0, .int .i64 0]) ?_ 0 _ rfl; (with_reducible repeat first | apply bN | apply bD | apply bA); exact BK170.out⟩
      have n3_ : Aside0 (Below w.heap.size w (((w35.setCell ⟨gb170, 0, none⟩ (.int .u64 t167)).setCell ⟨gb170, 1, none⟩ (.int .i64 t168)).setCell ⟨gb170, 2, none⟩ (.int .i64 t169))) := ⟨by repeat (first | (with_reducible first | exact HB.out | apply lA | apply lN | apply lD | refine lS ?_ GE165.out | refine lS ?_ GE166.out | refine lS ?_ GE170.out) | exact HB.out)⟩
      (try clear BK165)
      (try clear BK166)
      (try clear BK170)
      (try clear HB)
      generalize (((w35.setCell ⟨gb170, 0, none⟩ (.int .u64 t167)).setCell ⟨gb170, 1, none⟩ (.int .i64 t168)).setCell ⟨gb170, 2, none⟩ (.int .i64 t169)) = w40 at n0_ n1_ n2_ n3_ ⊢
      have BK165 := n0_
      have BK166 := n1_
      have BK170 := n2_
      have HB := n3_
      clear n0_ n1_ n2_ n3_
      have n0_ := Aside0.mk (bD BK165.out)
      have n1_ := Aside0.mk (bD BK166.out)
      have n2_ := Aside0.mk (bD BK170.out)
      have n3_ := Aside0.mk (lD HB.out)
      clear BK165
      clear BK166
      clear BK170
      clear HB
      have BK165 := n0_
      have BK166 := n1_
      have BK170 := n2_
      have HB := n3_
      clear n0_ n1_ n2_ n3_
      refine start_ (n := 11) (S := fun w' => w'.cell? ⟨gb170, 0, none⟩ = some (.int .u64 t167) ∧ w'.cell? ⟨gb170, 1, none⟩ = some (.int .i64 t168) ∧ w'.cell? ⟨gb170, 2, none⟩ = some (.int .i64 t169) ∧ w'.cell? ⟨gb165, 0, none⟩ = some (.string a0_0) ∧ w'.cell? ⟨gb165, 1, none⟩ = some (.bool false)) (ds := []) #[false, false, false, false, false, false, false, false, false, false, false] (by kernel_rfl) rfl rfl ⟨(bC BK170.out 0).trans rfl, (bC BK170.out 1).trans rfl, (bC BK170.out 2).trans rfl, (bC BK165.out 0).trans rfl, (bC BK165.out 1).trans rfl⟩ (fun hHeld => ?_); refine with_tabW weighlockref34_reader_number.tab4 weighlockref34_reader_number.bits4 (fun HT_ HW_ => ?_)
      generalize w40.drew = w41 at BK165 BK166 BK170 HB hHeld ⊢
      refine pure_ (i := 0) (N := some 21) (v := ?_) (a' := ?_) #[true, false, false, false, false, false, false, false, false, false, false] rfl rfl (any_of HT_.out (by kernel_rfl)) (fun _ _ _ h => h) (Or.inl ⟨by rfl, ?_⟩) ?_ ?_
      rotate_left
      ·intro w'
       go_simp
       with_reducible rfl
      rotate_left
      ·simp only [Act.put, List.setIfInBounds_toArray, List.set_cons_zero, List.set_cons_succ, i64_w, i32_w]
       rfl
      refine pure_ (i := 3) (N := some 24) (v := ?_) (a' := ?_) #[true, false, false, true, false, false, false, false, false, false, false] rfl rfl (any_of HT_.out (by kernel_rfl)) (fun _ _ _ h => h) (Or.inl ⟨by rfl, ?_⟩) ?_ ?_
      rotate_left
      ·intro w'
       go_simp
       with_reducible rfl
      rotate_left
      ·simp only [Act.put, List.setIfInBounds_toArray, List.set_cons_zero, List.set_cons_succ, i64_w, i32_w]
       rfl
      refine pure_ (i := 5) (N := some 26) (v := ?_) (a' := ?_) #[true, false, false, true, false, true, false, false, false, false, false] rfl rfl (any_of HT_.out (by kernel_rfl)) (fun _ _ _ h => h) (Or.inl ⟨by rfl, ?_⟩) ?_ ?_
      rotate_left
      ·intro w'
       go_simp
       with_reducible rfl
      rotate_left
      ·simp only [Act.put, List.setIfInBounds_toArray, List.set_cons_zero, List.set_cons_succ, i64_w, i32_w]
       rfl
      refine take_ (i := 1) (N := some 22) (v := ?_) (a' := ?_) #[true, true, false, true, false, true, false, false, false, false, false] rfl rfl (take_ofW HT_.out HW_.out (by kernel_rfl)) (fun _ _ _ h => h) (Or.inl ⟨by rfl, ?_⟩) hHeld ?_ ?_
      rotate_left
      ·rintro w' ⟨s0, s1, s2, s3, s4⟩
       go_simp
       with_reducible rfl
      rotate_left
      ·simp only [Act.put, List.setIfInBounds_toArray, List.set_cons_zero, List.set_cons_succ, i64_w, i32_w]
       rfl
      refine pure_ (i := 2) (N := some 23) (v := ?_) (a' := ?_) #[true, true, true, true, false, true, false, false, false, false, false] rfl rfl (any_of HT_.out (by kernel_rfl)) (fun _ _ _ h => h) (Or.inl ⟨by rfl, ?_⟩) ?_ ?_
      rotate_left
      ·intro w'
       go_simp
       with_reducible rfl
      rotate_left
      ·simp only [Act.put, List.setIfInBounds_toArray, List.set_cons_zero, List.set_cons_succ, i64_w, i32_w]
       rfl
      refine pure_ (i := 9) (N := some 2) (v := ?_) (a' := ?_) #[true, true, true, true, false, true, false, false, false, true, false] rfl rfl (any_of HT_.out (by kernel_rfl)) (fun _ _ _ h => h) (Or.inl ⟨by rfl, ?_⟩) ?_ ?_
      rotate_left
      ·intro w'
       go_simp
       with_reducible rfl
      rotate_left
      ·simp only [Act.put, List.setIfInBounds_toArray, List.set_cons_zero, List.set_cons_succ, i64_w, i32_w]
       rfl
      refine take_ (i := 4) (N := some 25) (v := ?_) (a' := ?_) #[true, true, true, true, true, true, false, false, false, true, false] rfl rfl (take_ofW HT_.out HW_.out (by kernel_rfl)) (fun _ _ _ h => h) (Or.inl ⟨by rfl, ?_⟩) hHeld ?_ ?_
      rotate_left
      ·rintro w' ⟨s0, s1, s2, s3, s4⟩
       go_simp
       with_reducible rfl
      rotate_left
      ·simp only [Act.put, List.setIfInBounds_toArray, List.set_cons_zero, List.set_cons_succ, i64_w, i32_w]
       rfl
      refine take_ (i := 6) (N := some 27) (v := ?_) (a' := ?_) #[true, true, true, true, true, true, true, false, false, true, false] rfl rfl (take_ofW HT_.out HW_.out (by kernel_rfl)) (fun _ _ _ h => h) (Or.inl ⟨by rfl, ?_⟩) hHeld ?_ ?_
      rotate_left
      ·rintro w' ⟨s0, s1, s2, s3, s4⟩
       go_simp
       with_reducible rfl
      rotate_left
      ·simp only [Act.put, List.setIfInBounds_toArray, List.set_cons_zero, List.set_cons_succ, i64_w, i32_w]
       rfl
      refine pure_ (i := 7) (N := some 28) (v := ?_) (a' := ?_) #[true, true, true, true, true, true, true, true, false, true, false] rfl rfl (any_of HT_.out (by kernel_rfl)) (fun _ _ _ h => h) (Or.inl ⟨by rfl, ?_⟩) ?_ ?_
      rotate_left
      ·intro w'
       go_simp
       with_reducible rfl
      rotate_left
      ·simp only [Act.put, List.setIfInBounds_toArray, List.set_cons_zero, List.set_cons_succ, i64_w, i32_w]
       rfl
      refine pure_ (i := 8) (N := some 29) (v := ?_) (a' := ?_) #[true, true, true, true, true, true, true, true, true, true, false] rfl rfl (any_of HT_.out (by kernel_rfl)) (fun _ _ _ h => h) (Or.inl ⟨by rfl, ?_⟩) ?_ ?_
      rotate_left
      ·intro w'
       go_simp
       with_reducible rfl
      rotate_left
      ·simp only [Act.put, List.setIfInBounds_toArray, List.set_cons_zero, List.set_cons_succ, i64_w, i32_w]
       rfl
      refine one_ (i := 10) (N := none) #[true, true, true, true, true, true, true, true, true, true, true] rfl rfl (one_of HT_.out (by kernel_rfl)) (by decide) (fun K hK => ?_)
      have hs42 : w41.cell? ⟨gb166, 0, none⟩ = some (.string (⟨#[]⟩ : ByteArray)) := (bC BK166.out 0).trans rfl
      have hfs42 := bF BK166.out 0
      have hns42_0 := NB165_166.out
      have hns42_2 := NB170_166.out
      have hms42_0 := NB166_165.out
      have hms42_2 := NB166_170.out
      have hs43 : w41.cell? ⟨gb166, 1, none⟩ = some (.bool false) := (bC BK166.out 1).trans rfl
      have hfs43 := bF BK166.out 1
      have hns43_0 := NB165_166.out
      have hns43_2 := NB170_166.out
      have hms43_0 := NB166_165.out
      have hms43_2 := NB166_170.out
      refine skip_ (w1 := ?_) (by rfl) rfl ?_ ?_
      rotate_left
      ·go_simp
       rfl
      refine hK.out _ _ ⟨((cell_far (p := ⟨gb166, _, none⟩) NB170_166.out _).trans (((cell_far (p := ⟨gb166, _, none⟩) NB170_166.out _).trans (hHeld.1)))), ((cell_far (p := ⟨gb166, _, none⟩) NB170_166.out _).trans (((cell_far (p := ⟨gb166, _, none⟩) NB170_166.out _).trans (hHeld.2.1)))), ((cell_far (p := ⟨gb166, _, none⟩) NB170_166.out _).trans (((cell_far (p := ⟨gb166, _, none⟩) NB170_166.out _).trans (hHeld.2.2.1)))), ((cell_far (p := ⟨gb166, _, none⟩) NB165_166.out _).trans (((cell_far (p := ⟨gb166, _, none⟩) NB165_166.out _).trans (hHeld.2.2.2.1)))), ((cell_far (p := ⟨gb166, _, none⟩) NB165_166.out _).trans (((cell_far (p := ⟨gb166, _, none⟩) NB165_166.out _).trans (hHeld.2.2.2.2))))⟩ (fun hHeld => ?_)
      clear hK K
      refine done_ (done_of HT_.out (by kernel_rfl)) ?_
      try go_wp2
      refine bodyPost_ret (results_tc rfl _ _ gb166 110 #[.string (a0_0.extract (t168 : Int).toNat a0_0.size), .bool false] (0, 0) _ rfl (by (with_reducible repeat first | apply bN | apply bD | apply bA); refine bP (cs := #[.string (a0_0.extract (t168 : Int).toNat a0_0.size), .bool false]) ?_ 1 _ rfl; (with_reducible repeat first | apply bN | apply bD | apply bA); refine bP (cs := #[.string (⟨#[]⟩ : ByteArray), .bool false]) ?_ 0 _ rfl; (with_reducible repeat first | apply bN | apply bD | apply bA); exact BK166.out) Try.underlying110 rfl (by kernel_rfl)) rfl ?_
      exact ⟨by first | rfl | (simp [errW_none, errW_some] <;> rfl) | (simp [*, errW_none, errW_some] <;> rfl), by repeat (first | (with_reducible first | exact HB.out | apply lA | apply lN | apply lD | refine lS ?_ GE165.out | refine lS ?_ GE166.out | refine lS ?_ GE170.out) | exact HB.out)⟩
     ·rw [if_neg c29] at H
      exact absurd H (by simp)
    ·rw [if_neg c28] at H
     exact absurd H (by simp)
  ·rw [if_neg c15] at H
   have c15b0 : (t169 == 0) = false := beq_eq_false_iff_ne.mpr c15
   have c15b1 : (t169 != 0) = true := bne_iff_ne.mpr c15
   simp only [Option.some.injEq, Prod.mk.injEq] at H
   obtain ⟨rfl, rfl, rfl⟩ := H
   have hund : ∀ b, some undef = some (Value.bool b) → False := fun b h => by simp [undef] at h
   go_enter Try.func101, Try.ntmps101
   go_wp2_with (first | ((with_reducible refine gate_dst (N := 1) rfl ?_); refine box_event ?hg (N := 1) ?hd (cs := #[.string a0_0, .bool false]) (t := 110) ?hr ?_; (case hd => rfl); (case hg => rfl); (case hr => first | (go_simp; done) | (go_simp; rfl)); intro gb165 hg w44 hbox hb; have n0_ := Aside0.mk (below_step (by repeat (first | (with_reducible first | exact HB.out | apply lA | apply lN | apply lD) | exact HB.out)) hb); have n1_ := Aside0.mk (hbox); have n2_ := Aside0.mk ((by rw [hg]; exact (below_size (by repeat (first | (with_reducible first | exact HB.out | apply lA | apply lN | apply lD) | exact HB.out))) : w.heap.size ≤ gb165)); have n3_ := Aside0.mk ((by rw [hg]; exact (below_size (by repeat (first | (with_reducible first | exact HB.out | apply lA | apply lN | apply lD) | exact HB.out))) : w.heap.size ≤ gb165)); clear HB; have HB := n0_; have BK165 := n1_; have GW165 := n2_; have GE165 := n3_; clear n0_ n1_ n2_ n3_; clear hb hbox hg) | ((with_reducible refine gate_dst (N := 3) rfl ?_); refine box_event ?hg (N := 3) ?hd (cs := #[.string (⟨#[]⟩ : ByteArray), .bool false]) (t := 110) ?hr ?_; (case hd => rfl); (case hg => rfl); (case hr => first | (go_simp; done) | (go_simp; rfl)); intro gb166 hg w45 hbox hb; have n0_ := Aside0.mk (bB (g := gb165) (o := .cells #[.string a0_0, .bool false] 110 (0, 0)) (by (with_reducible repeat first | apply bN | apply bD | apply bA); exact BK165.out) hb); have n1_ := Aside0.mk (below_step (by repeat (first | (with_reducible first | exact HB.out | apply lA | apply lN | apply lD | refine lS ?_ GE165.out) | exact HB.out)) hb); have n2_ := Aside0.mk (hbox); have n3_ := Aside0.mk ((by rw [hg]; exact (below_size (by repeat (first | (with_reducible first | exact HB.out | apply lA | apply lN | apply lD | refine lS ?_ GE165.out) | exact HB.out))) : w.heap.size ≤ gb166)); have n4_ := Aside0.mk ((by rw [hg]; exact (below_size (by repeat (first | (with_reducible first | exact HB.out | apply lA | apply lN | apply lD | refine lS ?_ GE165.out) | exact HB.out))) : w.heap.size ≤ gb166)); have n5_ := Aside0.mk ((by rw [hg]; exact Nat.ne_of_lt (blk_lt (g := gb165) (o := .cells #[.string a0_0, .bool false] 110 (0, 0)) (by (with_reducible repeat first | apply bN | apply bD | apply bA); exact BK165.out)) : gb165 ≠ gb166)); have n6_ := Aside0.mk ((by rw [hg]; exact Nat.ne_of_gt (blk_lt (g := gb165) (o := .cells #[.string a0_0, .bool false] 110 (0, 0)) (by (with_reducible repeat first | apply bN | apply bD | apply bA); exact BK165.out)) : gb166 ≠ gb165)); clear BK165; clear HB; have BK165 := n0_; have HB := n1_; have BK166 := n2_; have GW166 := n3_; have GE166 := n4_; have NB165_166 := n5_; have NB166_165 := n6_; clear n0_ n1_ n2_ n3_ n4_ n5_ n6_; clear hb hbox hg; have hnb46 := NB165_166.out; have hnc46 := NB166_165.out; have hcz47_0 : w45.cell? ⟨gb165, 0, none⟩ = some (.string a0_0) := (bC BK165.out 0).trans rfl; have hcz47_1 : w45.cell? ⟨gb165, 1, none⟩ = some (.bool false) := (bC BK165.out 1).trans rfl; have hfz47_0 := bF BK165.out 0; have hfz47_1 := bF BK165.out 1) | ((with_reducible refine gate_callee (f := 113) rfl ?_); refine goesL_ (some 7) rfl rfl Try.func113 (by kernel_rfl) rfl #[.string a0_0] rfl (by (try simp only [List.map_toArray, List.map_cons, List.map_nil]); first | done | rfl | (simp only [List.length_drop, List.length_take]; rfl)) ?_; (with_reducible refine (weighlockref01_Unchain.calls k a0_0 t167 t168 t169 _ A2.out).mono ?_); rintro e w48 ⟨rfl, hb⟩; refine ⟨_, rfl, ?_⟩; have n0_ := Aside0.mk (bB (g := gb165) (o := .cells #[.string a0_0, .bool false] 110 (0, 0)) (by (with_reducible repeat first | apply bN | apply bD | apply bA); exact BK165.out) hb); have n1_ := Aside0.mk (bB (g := gb166) (o := .cells #[.string (⟨#[]⟩ : ByteArray), .bool false] 110 (0, 0)) (by (with_reducible repeat first | apply bN | apply bD | apply bA); exact BK166.out) hb); have n2_ := Aside0.mk (below_step (by repeat (first | (with_reducible first | exact HB.out | apply lA | apply lN | apply lD | refine lS ?_ GE165.out | refine lS ?_ GE166.out) | exact HB.out)) hb); clear BK165; clear BK166; clear HB; have BK165 := n0_; have BK166 := n1_; have HB := n2_; clear n0_ n1_ n2_; (try clear hb); (try clear hb2); (try clear hk); (try clear hi)) | ((with_reducible refine gate_dst (N := 4) rfl ?_); refine box_event ?hg (N := 4) ?hd (cs := #[.int .u64 0, .int .i64 0, .int .i64 0]) (t := 176) ?hr ?_; (case hd => rfl); (case hg => rfl); (case hr => first | (go_simp; done) | (go_simp; rfl)); intro gb170 hg w49 hbox hb; have n0_ := Aside0.mk (bB (g := gb165) (o := .cells #[.string a0_0, .bool false] 110 (0, 0)) (by (with_reducible repeat first | apply bN | apply bD | apply bA); exact BK165.out) hb); have n1_ := Aside0.mk (bB (g := gb166) (o := .cells #[.string (⟨#[]⟩ : ByteArray), .bool false] 110 (0, 0)) (by (with_reducible repeat first | apply bN | apply bD | apply bA); exact BK166.out) hb); have n2_ := Aside0.mk (below_step (by repeat (first | (with_reducible first | exact HB.out | apply lA | apply lN | apply lD | refine lS ?_ GE165.out | refine lS ?_ GE166.out) | exact HB.out)) hb); have n3_ := Aside0.mk (hbox); have n4_ := Aside0.mk ((by rw [hg]; exact (below_size (by repeat (first | (with_reducible first | exact HB.out | apply lA | apply lN | apply lD | refine lS ?_ GE165.out | refine lS ?_ GE166.out) | exact HB.out))) : w.heap.size ≤ gb170)); have n5_ := Aside0.mk ((by rw [hg]; exact (below_size (by repeat (first | (with_reducible first | exact HB.out | apply lA | apply lN | apply lD | refine lS ?_ GE165.out | refine lS ?_ GE166.out) | exact HB.out))) : w.heap.size ≤ gb170)); have n6_ := Aside0.mk ((by rw [hg]; exact Nat.ne_of_lt (blk_lt (g := gb165) (o := .cells #[.string a0_0, .bool false] 110 (0, 0)) (by (with_reducible repeat first | apply bN | apply bD | apply bA); exact BK165.out)) : gb165 ≠ gb170)); have n7_ := Aside0.mk ((by rw [hg]; exact Nat.ne_of_gt (blk_lt (g := gb165) (o := .cells #[.string a0_0, .bool false] 110 (0, 0)) (by (with_reducible repeat first | apply bN | apply bD | apply bA); exact BK165.out)) : gb170 ≠ gb165)); have n8_ := Aside0.mk ((by rw [hg]; exact Nat.ne_of_lt (blk_lt (g := gb166) (o := .cells #[.string (⟨#[]⟩ : ByteArray), .bool false] 110 (0, 0)) (by (with_reducible repeat first | apply bN | apply bD | apply bA); exact BK166.out)) : gb166 ≠ gb170)); have n9_ := Aside0.mk ((by rw [hg]; exact Nat.ne_of_gt (blk_lt (g := gb166) (o := .cells #[.string (⟨#[]⟩ : ByteArray), .bool false] 110 (0, 0)) (by (with_reducible repeat first | apply bN | apply bD | apply bA); exact BK166.out)) : gb170 ≠ gb166)); clear BK165; clear BK166; clear HB; have BK165 := n0_; have BK166 := n1_; have HB := n2_; have BK170 := n3_; have GW170 := n4_; have GE170 := n5_; have NB165_170 := n6_; have NB170_165 := n7_; have NB166_170 := n8_; have NB170_166 := n9_; clear n0_ n1_ n2_ n3_ n4_ n5_ n6_ n7_ n8_ n9_; clear hb hbox hg; have hnb50 := NB170_165.out; have hnc50 := NB165_170.out; have hnb51 := NB170_166.out; have hnc51 := NB166_170.out; have hcz52_0 : w49.cell? ⟨gb170, 0, none⟩ = some (.int .u64 0) := (bC BK170.out 0).trans rfl; have hcz52_1 : w49.cell? ⟨gb170, 1, none⟩ = some (.int .i64 0) := (bC BK170.out 1).trans rfl; have hcz52_2 : w49.cell? ⟨gb170, 2, none⟩ = some (.int .i64 0) := (bC BK170.out 2).trans rfl; have hfz52_0 := bF BK170.out 0; have hfz52_1 := bF BK170.out 1; have hfz52_2 := bF BK170.out 2; have hcz53_0 : w49.cell? ⟨gb165, 0, none⟩ = some (.string a0_0) := (bC BK165.out 0).trans rfl; have hcz53_1 : w49.cell? ⟨gb165, 1, none⟩ = some (.bool false) := (bC BK165.out 1).trans rfl; have hfz53_0 := bF BK165.out 0; have hfz53_1 := bF BK165.out 1; have hcz54_0 : w49.cell? ⟨gb166, 0, none⟩ = some (.string (⟨#[]⟩ : ByteArray)) := (bC BK166.out 0).trans rfl; have hcz54_1 : w49.cell? ⟨gb166, 1, none⟩ = some (.bool false) := (bC BK166.out 1).trans rfl; have hfz54_0 := bF BK166.out 0; have hfz54_1 := bF BK166.out 1))
   refine bodyPost_ret (results_tc rfl _ _ gb166 110 #[.string (⟨#[]⟩ : ByteArray), .bool true] (0, 0) _ rfl (by (with_reducible repeat first | apply bN | apply bD | apply bA); refine bP (cs := #[.string (⟨#[]⟩ : ByteArray), .bool false]) ?_ 1 _ rfl; (with_reducible repeat first | apply bN | apply bD | apply bA); refine bP (cs := #[.string (⟨#[]⟩ : ByteArray), .bool false]) ?_ 0 _ rfl; (with_reducible repeat first | apply bN | apply bD | apply bA); refine bR ?_ NB166_170.out _; (with_reducible repeat first | apply bN | apply bD | apply bA); refine bR ?_ NB166_170.out _; (with_reducible repeat first | apply bN | apply bD | apply bA); refine bR ?_ NB166_170.out _; (with_reducible repeat first | apply bN | apply bD | apply bA); exact BK166.out) Try.underlying110 rfl (by kernel_rfl)) rfl ?_
   exact ⟨by first | rfl | (simp [errW_none, errW_some] <;> rfl) | (simp [*, errW_none, errW_some] <;> rfl), by repeat (first | (with_reducible first | exact HB.out | apply lA | apply lN | apply lD | refine lS ?_ GE165.out | refine lS ?_ GE166.out | refine lS ?_ GE170.out) | exact HB.out)⟩

/-! ### weighlockref34_reader_place: function 102 -/
def weighlockref34_reader_place.f (k : Nat) (a0_0 : ByteArray) (a0_1 : Bool) : Option (ByteArray × Int × ByteArray × Bool) := (weighlockref34_reader_text.f k a0_0 a0_1).bind fun bt174 => ((weighlockref34_reader_number.f k bt174.2.1 bt174.2.2).bind fun bt178 => (some (bt174.1, bt178.1, bt178.2.1, bt178.2.2)))
theorem weighlockref34_reader_place.mono : ∀ a0 a1 k, LeO (weighlockref34_reader_place.f k a0 a1) (weighlockref34_reader_place.f (k + 1) a0 a1) := by
 intro a0 a1 k
 unfold weighlockref34_reader_place.f
 repeat' first
   | (with_reducible exact weighlockref34_reader_number.mono _ _ _)
   | (with_reducible exact weighlockref34_reader_text.mono _ _ _)
   | (with_reducible exact LeO.refl _)
   | (with_reducible exact LeO.none _)
   | (with_reducible refine LeO.ite ?_ ?_)
   | (with_reducible refine LeO.bind ?_ (fun _ => ?_))
   | exact weighlockref34_reader_number.mono _ _ _
   | exact weighlockref34_reader_text.mono _ _ _
   | exact LeO.none _
   | refine LeO.ite ?_ ?_
   | refine LeO.bind ?_ (fun _ => ?_)
set_option maxHeartbeats 8000000 in
set_option maxRecDepth 100000 in
theorem weighlockref34_reader_place.calls (k : Nat) (a0_0 : ByteArray) (a0_1 : Bool) (r1 : ByteArray) (r2 : Int) (r3 : ByteArray) (r4 : Bool) (w : World) (h : weighlockref34_reader_place.f k a0_0 a0_1 = some (r1, r2, r3, r4)) :
  Calls Try.prog 102 #[.agg #[.string a0_0, .bool a0_1]] w fun e w' => e = .returned (.tuple #[.agg #[.string r1, .int .i64 r2], .agg #[.string r3, .bool r4]]) ∧ Below w.heap.size w w' := by
 have hu110 := Try.underlying110
 have hu40 := Try.underlying40
 have HB := Aside0.mk (Below.refl w.heap.size w)
 have H : ((weighlockref34_reader_text.f k a0_0 a0_1).bind fun bt174 => ((weighlockref34_reader_number.f k bt174.2.1 bt174.2.2).bind fun bt178 => (some (bt174.1, bt178.1, bt178.2.1, bt178.2.2)))) = some (r1, r2, r3, r4) := h
 clear h
 replace H := Option.bind_eq_some_iff.mp H
 obtain ⟨⟨t174, t175, t176⟩, A20, H⟩ := H
 replace H : ((weighlockref34_reader_number.f k t175 t176).bind fun bt178 => (some (t174, bt178.1, bt178.2.1, bt178.2.2))) = some (r1, r2, r3, r4) := H
 have A2 := Aside0.mk A20
 clear A20
 replace H := Option.bind_eq_some_iff.mp H
 obtain ⟨⟨t178, t179, t180⟩, A30, H⟩ := H
 replace H : (some (t174, t178, t179, t180)) = some (r1, r2, r3, r4) := H
 have A3 := Aside0.mk A30
 clear A30
 simp only [Option.some.injEq, Prod.mk.injEq] at H
 obtain ⟨rfl, rfl, rfl, rfl⟩ := H
 go_enter Try.func102, Try.ntmps102
 try go_wp2_with (first | ((with_reducible refine gate_dst (N := 1) rfl ?_); refine box_event ?hg (N := 1) ?hd (cs := #[.string a0_0, .bool a0_1]) (t := 110) ?hr ?_; (case hd => rfl); (case hg => rfl); (case hr => first | (go_simp; done) | (go_simp; rfl)); intro gb171 hg w4 hbox hb; have n0_ := Aside0.mk (below_step (by repeat (first | (with_reducible first | exact HB.out | apply lA | apply lN | apply lD) | exact HB.out)) hb); have n1_ := Aside0.mk (hbox); have n2_ := Aside0.mk ((by rw [hg]; exact (below_size (by repeat (first | (with_reducible first | exact HB.out | apply lA | apply lN | apply lD) | exact HB.out))) : w.heap.size ≤ gb171)); have n3_ := Aside0.mk ((by rw [hg]; exact (below_size (by repeat (first | (with_reducible first | exact HB.out | apply lA | apply lN | apply lD) | exact HB.out))) : w.heap.size ≤ gb171)); clear HB; have HB := n0_; have BK171 := n1_; have GW171 := n2_; have GE171 := n3_; clear n0_ n1_ n2_ n3_; clear hb hbox hg) | ((with_reducible refine gate_dst (N := 2) rfl ?_); refine box_event ?hg (N := 2) ?hd (cs := #[.string (⟨#[]⟩ : ByteArray), .int .i64 0]) (t := 40) ?hr ?_; (case hd => rfl); (case hg => rfl); (case hr => first | (go_simp; done) | (go_simp; rfl)); intro gb172 hg w5 hbox hb; have n0_ := Aside0.mk (bB (g := gb171) (o := .cells #[.string a0_0, .bool a0_1] 110 (0, 0)) (by (with_reducible repeat first | apply bN | apply bD | apply bA); exact BK171.out) hb); have n1_ := Aside0.mk (below_step (by repeat (first | (with_reducible first | exact HB.out | apply lA | apply lN | apply lD | refine lS ?_ GE171.out) | exact HB.out)) hb); have n2_ := Aside0.mk (hbox); have n3_ := Aside0.mk ((by rw [hg]; exact (below_size (by repeat (first | (with_reducible first | exact HB.out | apply lA | apply lN | apply lD | refine lS ?_ GE171.out) | exact HB.out))) : w.heap.size ≤ gb172)); have n4_ := Aside0.mk ((by rw [hg]; exact (below_size (by repeat (first | (with_reducible first | exact HB.out | apply lA | apply lN | apply lD | refine lS ?_ GE171.out) | exact HB.out))) : w.heap.size ≤ gb172)); have n5_ := Aside0.mk ((by rw [hg]; exact Nat.ne_of_lt (blk_lt (g := gb171) (o := .cells #[.string a0_0, .bool a0_1] 110 (0, 0)) (by (with_reducible repeat first | apply bN | apply bD | apply bA); exact BK171.out)) : gb171 ≠ gb172)); have n6_ := Aside0.mk ((by rw [hg]; exact Nat.ne_of_gt (blk_lt (g := gb171) (o := .cells #[.string a0_0, .bool a0_1] 110 (0, 0)) (by (with_reducible repeat first | apply bN | apply bD | apply bA); exact BK171.out)) : gb172 ≠ gb171)); clear BK171; clear HB; have BK171 := n0_; have HB := n1_; have BK172 := n2_; have GW172 := n3_; have GE172 := n4_; have NB171_172 := n5_; have NB172_171 := n6_; clear n0_ n1_ n2_ n3_ n4_ n5_ n6_; clear hb hbox hg) | ((with_reducible refine gate_dst (N := 3) rfl ?_); refine box_event ?hg (N := 3) ?hd (cs := #[.string (⟨#[]⟩ : ByteArray), .bool false]) (t := 110) ?hr ?_; (case hd => rfl); (case hg => rfl); (case hr => first | (go_simp; done) | (go_simp; rfl)); intro gb173 hg w6 hbox hb; have n0_ := Aside0.mk (bB (g := gb171) (o := .cells #[.string a0_0, .bool a0_1] 110 (0, 0)) (by (with_reducible repeat first | apply bN | apply bD | apply bA); exact BK171.out) hb); have n1_ := Aside0.mk (bB (g := gb172) (o := .cells #[.string (⟨#[]⟩ : ByteArray), .int .i64 0] 40 (0, 0)) (by (with_reducible repeat first | apply bN | apply bD | apply bA); exact BK172.out) hb); have n2_ := Aside0.mk (below_step (by repeat (first | (with_reducible first | exact HB.out | apply lA | apply lN | apply lD | refine lS ?_ GE171.out | refine lS ?_ GE172.out) | exact HB.out)) hb); have n3_ := Aside0.mk (hbox); have n4_ := Aside0.mk ((by rw [hg]; exact (below_size (by repeat (first | (with_reducible first | exact HB.out | apply lA | apply lN | apply lD | refine lS ?_ GE171.out | refine lS ?_ GE172.out) | exact HB.out))) : w.heap.size ≤ gb173)); have n5_ := Aside0.mk ((by rw [hg]; exact (below_size (by repeat (first | (with_reducible first | exact HB.out | apply lA | apply lN | apply lD | refine lS ?_ GE171.out | refine lS ?_ GE172.out) | exact HB.out))) : w.heap.size ≤ gb173)); have n6_ := Aside0.mk ((by rw [hg]; exact Nat.ne_of_lt (blk_lt (g := gb171) (o := .cells #[.string a0_0, .bool a0_1] 110 (0, 0)) (by (with_reducible repeat first | apply bN | apply bD | apply bA); exact BK171.out)) : gb171 ≠ gb173)); have n7_ := Aside0.mk ((by rw [hg]; exact Nat.ne_of_gt (blk_lt (g := gb171) (o := .cells #[.string a0_0, .bool a0_1] 110 (0, 0)) (by (with_reducible repeat first | apply bN | apply bD | apply bA); exact BK171.out)) : gb173 ≠ gb171)); have n8_ := Aside0.mk ((by rw [hg]; exact Nat.ne_of_lt (blk_lt (g := gb172) (o := .cells #[.string (⟨#[]⟩ : ByteArray), .int .i64 0] 40 (0, 0)) (by (with_reducible repeat first | apply bN | apply bD | apply bA); exact BK172.out)) : gb172 ≠ gb173)); have n9_ := Aside0.mk ((by rw [hg]; exact Nat.ne_of_gt (blk_lt (g := gb172) (o := .cells #[.string (⟨#[]⟩ : ByteArray), .int .i64 0] 40 (0, 0)) (by (with_reducible repeat first | apply bN | apply bD | apply bA); exact BK172.out)) : gb173 ≠ gb172)); clear BK171; clear BK172; clear HB; have BK171 := n0_; have BK172 := n1_; have HB := n2_; have BK173 := n3_; have GW173 := n4_; have GE173 := n5_; have NB171_173 := n6_; have NB173_171 := n7_; have NB172_173 := n8_; have NB173_172 := n9_; clear n0_ n1_ n2_ n3_ n4_ n5_ n6_ n7_ n8_ n9_; clear hb hbox hg; have hnb7 := NB171_172.out; have hnc7 := NB172_171.out; have hnb8 := NB171_173.out; have hnc8 := NB173_171.out; have hcz9_0 : w6.cell? ⟨gb171, 0, none⟩ = some (.string a0_0) := (bC BK171.out 0).trans rfl; have hcz9_1 : w6.cell? ⟨gb171, 1, none⟩ = some (.bool a0_1) := (bC BK171.out 1).trans rfl; have hfz9_0 := bF BK171.out 0; have hfz9_1 := bF BK171.out 1) | ((with_reducible refine gate_callee (f := 100) rfl ?_); refine goesL_ (some 10) rfl rfl Try.func100 (by kernel_rfl) rfl #[.agg #[.string a0_0, .bool a0_1]] rfl (by (try simp only [List.map_toArray, List.map_cons, List.map_nil]); first | done | rfl | (simp only [List.length_drop, List.length_take]; rfl)) ?_; (with_reducible refine (weighlockref34_reader_text.calls k a0_0 a0_1 t174 t175 t176 _ A2.out).mono ?_); rintro e w10 ⟨rfl, hb⟩; refine ⟨_, rfl, ?_⟩; have n0_ := Aside0.mk (bB (g := gb171) (o := .cells #[.string a0_0, .bool a0_1] 110 (0, 0)) (by (with_reducible repeat first | apply bN | apply bD | apply bA); exact BK171.out) hb); have n1_ := Aside0.mk (bB (g := gb172) (o := .cells #[.string (⟨#[]⟩ : ByteArray), .int .i64 0] 40 (0, 0)) (by (with_reducible repeat first | apply bN | apply bD | apply bA); exact BK172.out) hb); have n2_ := Aside0.mk (bB (g := gb173) (o := .cells #[.string (⟨#[]⟩ : ByteArray), .bool false] 110 (0, 0)) (by (with_reducible repeat first | apply bN | apply bD | apply bA); exact BK173.out) hb); have n3_ := Aside0.mk (below_step (by repeat (first | (with_reducible first | exact HB.out | apply lA | apply lN | apply lD | refine lS ?_ GE171.out | refine lS ?_ GE172.out | refine lS ?_ GE173.out) | exact HB.out)) hb); clear BK171; clear BK172; clear BK173; clear HB; have BK171 := n0_; have BK172 := n1_; have BK173 := n2_; have HB := n3_; clear n0_ n1_ n2_ n3_; (try clear hb); (try clear hb2); (try clear hk); (try clear hi)) | ((with_reducible refine gate_dst (N := 5) rfl ?_); refine box_event ?hg (N := 5) ?hd (cs := #[.string (⟨#[]⟩ : ByteArray), .bool false]) (t := 110) ?hr ?_; (case hd => rfl); (case hg => rfl); (case hr => first | (go_simp; done) | (go_simp; rfl)); intro gb177 hg w11 hbox hb; have n0_ := Aside0.mk (bB (g := gb171) (o := .cells #[.string a0_0, .bool a0_1] 110 (0, 0)) (by (with_reducible repeat first | apply bN | apply bD | apply bA); exact BK171.out) hb); have n1_ := Aside0.mk (bB (g := gb172) (o := .cells #[.string (⟨#[]⟩ : ByteArray), .int .i64 0] 40 (0, 0)) (by (with_reducible repeat first | apply bN | apply bD | apply bA); exact BK172.out) hb); have n2_ := Aside0.mk (bB (g := gb173) (o := .cells #[.string (⟨#[]⟩ : ByteArray), .bool false] 110 (0, 0)) (by (with_reducible repeat first | apply bN | apply bD | apply bA); exact BK173.out) hb); have n3_ := Aside0.mk (below_step (by repeat (first | (with_reducible first | exact HB.out | apply lA | apply lN | apply lD | refine lS ?_ GE171.out | refine lS ?_ GE172.out | refine lS ?_ GE173.out) | exact HB.out)) hb); have n4_ := Aside0.mk (hbox); have n5_ := Aside0.mk ((by rw [hg]; exact (below_size (by repeat (first | (with_reducible first | exact HB.out | apply lA | apply lN | apply lD | refine lS ?_ GE171.out | refine lS ?_ GE172.out | refine lS ?_ GE173.out) | exact HB.out))) : w.heap.size ≤ gb177)); have n6_ := Aside0.mk ((by rw [hg]; exact (below_size (by repeat (first | (with_reducible first | exact HB.out | apply lA | apply lN | apply lD | refine lS ?_ GE171.out | refine lS ?_ GE172.out | refine lS ?_ GE173.out) | exact HB.out))) : w.heap.size ≤ gb177)); have n7_ := Aside0.mk ((by rw [hg]; exact Nat.ne_of_lt (blk_lt (g := gb171) (o := .cells #[.string a0_0, .bool a0_1] 110 (0, 0)) (by (with_reducible repeat first | apply bN | apply bD | apply bA); exact BK171.out)) : gb171 ≠ gb177)); have n8_ := Aside0.mk ((by rw [hg]; exact Nat.ne_of_gt (blk_lt (g := gb171) (o := .cells #[.string a0_0, .bool a0_1] 110 (0, 0)) (by (with_reducible repeat first | apply bN | apply bD | apply bA); exact BK171.out)) : gb177 ≠ gb171)); have n9_ := Aside0.mk ((by rw [hg]; exact Nat.ne_of_lt (blk_lt (g := gb172) (o := .cells #[.string (⟨#[]⟩ : ByteArray), .int .i64 0] 40 (0, 0)) (by (with_reducible repeat first | apply bN | apply bD | apply bA); exact BK172.out)) : gb172 ≠ gb177)); have n10_ := Aside0.mk ((by rw [hg]; exact Nat.ne_of_gt (blk_lt (g := gb172) (o := .cells #[.string (⟨#[]⟩ : ByteArray), .int .i64 0] 40 (0, 0)) (by (with_reducible repeat first | apply bN | apply bD | apply bA); exact BK172.out)) : gb177 ≠ gb172)); have n11_ := Aside0.mk ((by rw [hg]; exact Nat.ne_of_lt (blk_lt (g := gb173) (o := .cells #[.string (⟨#[]⟩ : ByteArray), .bool false] 110 (0, 0)) (by (with_reducible repeat first | apply bN | apply bD | apply bA); exact BK173.out)) : gb173 ≠ gb177)); have n12_ := Aside0.mk ((by rw [hg]; exact Nat.ne_of_gt (blk_lt (g := gb173) (o := .cells #[.string (⟨#[]⟩ : ByteArray), .bool false] 110 (0, 0)) (by (with_reducible repeat first | apply bN | apply bD | apply bA); exact BK173.out)) : gb177 ≠ gb173)); clear BK171; clear BK172; clear BK173; clear HB; have BK171 := n0_; have BK172 := n1_; have BK173 := n2_; have HB := n3_; have BK177 := n4_; have GW177 := n5_; have GE177 := n6_; have NB171_177 := n7_; have NB177_171 := n8_; have NB172_177 := n9_; have NB177_172 := n10_; have NB173_177 := n11_; have NB177_173 := n12_; clear n0_ n1_ n2_ n3_ n4_ n5_ n6_ n7_ n8_ n9_ n10_ n11_ n12_; clear hb hbox hg; have hnb12 := NB177_171.out; have hnc12 := NB171_177.out; have hnb13 := NB177_172.out; have hnc13 := NB172_177.out; have hnb14 := NB177_173.out; have hnc14 := NB173_177.out; have hcz15_0 : w11.cell? ⟨gb177, 0, none⟩ = some (.string (⟨#[]⟩ : ByteArray)) := (bC BK177.out 0).trans rfl; have hcz15_1 : w11.cell? ⟨gb177, 1, none⟩ = some (.bool false) := (bC BK177.out 1).trans rfl; have hfz15_0 := bF BK177.out 0; have hfz15_1 := bF BK177.out 1) | ((with_reducible refine gate_callee (f := 101) rfl ?_); refine goesL_ (some 15) rfl rfl Try.func101 (by kernel_rfl) rfl #[.agg #[.string t175, .bool t176]] rfl (by (try simp only [List.map_toArray, List.map_cons, List.map_nil]); first | done | rfl | (simp only [List.length_drop, List.length_take]; rfl)) ?_; (with_reducible refine (weighlockref34_reader_number.calls k t175 t176 t178 t179 t180 _ A3.out).mono ?_); rintro e w16 ⟨rfl, hb⟩; refine ⟨_, rfl, ?_⟩; have n0_ := Aside0.mk (bB (g := gb171) (o := .cells #[.string a0_0, .bool a0_1] 110 (0, 0)) (by (with_reducible repeat first | apply bN | apply bD | apply bA); refine bR ?_ NB171_177.out _; (with_reducible repeat first | apply bN | apply bD | apply bA); refine bR ?_ NB171_177.out _; (with_reducible repeat first | apply bN | apply bD | apply bA); exact BK171.out) hb); have n1_ := Aside0.mk (bB (g := gb172) (o := .cells #[.string (⟨#[]⟩ : ByteArray), .int .i64 0] 40 (0, 0)) (by (with_reducible repeat first | apply bN | apply bD | apply bA); refine bR ?_ NB172_177.out _; (with_reducible repeat first | apply bN | apply bD | apply bA); refine bR ?_ NB172_177.out _; (with_reducible repeat first | apply bN | apply bD | apply bA); exact BK172.out) hb); have n2_ := Aside0.mk (bB (g := gb173) (o := .cells #[.string (⟨#[]⟩ : ByteArray), .bool false] 110 (0, 0)) (by (with_reducible repeat first | apply bN | apply bD | apply bA); refine bR ?_ NB173_177.out _; (with_reducible repeat first | apply bN | apply bD | apply bA); refine bR ?_ NB173_177.out _; (with_reducible repeat first | apply bN | apply bD | apply bA); exact BK173.out) hb); have n3_ := Aside0.mk (bB (g := gb177) (o := .cells #[.string t175, .bool t176] 110 (0, 0)) (by (with_reducible repeat first | apply bN | apply bD | apply bA); refine bP (cs := #[.string t175, .bool false]) ?_ 1 _ rfl; (with_reducible repeat first | apply bN | apply bD | apply bA); refine bP (cs := #[.string (⟨#[]⟩ : ByteArray), .bool false]) ?_ 0 _ rfl; (with_reducible repeat first | apply bN | apply bD | apply bA); exact BK177.out) hb); have n4_ := Aside0.mk (below_step (by repeat (first | (with_reducible first | exact HB.out | apply lA | apply lN | apply lD | refine lS ?_ GE171.out | refine lS ?_ GE172.out | refine lS ?_ GE173.out | refine lS ?_ GE177.out) | exact HB.out)) hb); clear BK171; clear BK172; clear BK173; clear BK177; clear HB; have BK171 := n0_; have BK172 := n1_; have BK173 := n2_; have BK177 := n3_; have HB := n4_; clear n0_ n1_ n2_ n3_ n4_; (try clear hb); (try clear hb2); (try clear hk); (try clear hi)) | ((with_reducible refine gate_dst (N := 7) rfl ?_); refine box_event ?hg (N := 7) ?hd (cs := #[.string (⟨#[]⟩ : ByteArray), .bool false]) (t := 110) ?hr ?_; (case hd => rfl); (case hg => rfl); (case hr => first | (go_simp; done) | (go_simp; rfl)); intro gb181 hg w17 hbox hb; have n0_ := Aside0.mk (bB (g := gb171) (o := .cells #[.string a0_0, .bool a0_1] 110 (0, 0)) (by (with_reducible repeat first | apply bN | apply bD | apply bA); exact BK171.out) hb); have n1_ := Aside0.mk (bB (g := gb172) (o := .cells #[.string (⟨#[]⟩ : ByteArray), .int .i64 0] 40 (0, 0)) (by (with_reducible repeat first | apply bN | apply bD | apply bA); exact BK172.out) hb); have n2_ := Aside0.mk (bB (g := gb173) (o := .cells #[.string (⟨#[]⟩ : ByteArray), .bool false] 110 (0, 0)) (by (with_reducible repeat first | apply bN | apply bD | apply bA); exact BK173.out) hb); have n3_ := Aside0.mk (bB (g := gb177) (o := .cells #[.string t175, .bool t176] 110 (0, 0)) (by (with_reducible repeat first | apply bN | apply bD | apply bA); exact BK177.out) hb); have n4_ := Aside0.mk (below_step (by repeat (first | (with_reducible first | exact HB.out | apply lA | apply lN | apply lD | refine lS ?_ GE171.out | refine lS ?_ GE172.out | refine lS ?_ GE173.out | refine lS ?_ GE177.out) | exact HB.out)) hb); have n5_ := Aside0.mk (hbox); have n6_ := Aside0.mk ((by rw [hg]; exact (below_size (by repeat (first | (with_reducible first | exact HB.out | apply lA | apply lN | apply lD | refine lS ?_ GE171.out | refine lS ?_ GE172.out | refine lS ?_ GE173.out | refine lS ?_ GE177.out) | exact HB.out))) : w.heap.size ≤ gb181)); have n7_ := Aside0.mk ((by rw [hg]; exact (below_size (by repeat (first | (with_reducible first | exact HB.out | apply lA | apply lN | apply lD | refine lS ?_ GE171.out | refine lS ?_ GE172.out | refine lS ?_ GE173.out | refine lS ?_ GE177.out) | exact HB.out))) : w.heap.size ≤ gb181)); have n8_ := Aside0.mk ((by rw [hg]; exact Nat.ne_of_lt (blk_lt (g := gb171) (o := .cells #[.string a0_0, .bool a0_1] 110 (0, 0)) (by (with_reducible repeat first | apply bN | apply bD | apply bA); exact BK171.out)) : gb171 ≠ gb181)); have n9_ := Aside0.mk ((by rw [hg]; exact Nat.ne_of_gt (blk_lt (g := gb171) (o := .cells #[.string a0_0, .bool a0_1] 110 (0, 0)) (by (with_reducible repeat first | apply bN | apply bD | apply bA); exact BK171.out)) : gb181 ≠ gb171)); have n10_ := Aside0.mk ((by rw [hg]; exact Nat.ne_of_lt (blk_lt (g := gb172) (o := .cells #[.string (⟨#[]⟩ : ByteArray), .int .i64 0] 40 (0, 0)) (by (with_reducible repeat first | apply bN | apply bD | apply bA); exact BK172.out)) : gb172 ≠ gb181)); have n11_ := Aside0.mk ((by rw [hg]; exact Nat.ne_of_gt (blk_lt (g := gb172) (o := .cells #[.string (⟨#[]⟩ : ByteArray), .int .i64 0] 40 (0, 0)) (by (with_reducible repeat first | apply bN | apply bD | apply bA); exact BK172.out)) : gb181 ≠ gb172)); have n12_ := Aside0.mk ((by rw [hg]; exact Nat.ne_of_lt (blk_lt (g := gb173) (o := .cells #[.string (⟨#[]⟩ : ByteArray), .bool false] 110 (0, 0)) (by (with_reducible repeat first | apply bN | apply bD | apply bA); exact BK173.out)) : gb173 ≠ gb181)); have n13_ := Aside0.mk ((by rw [hg]; exact Nat.ne_of_gt (blk_lt (g := gb173) (o := .cells #[.string (⟨#[]⟩ : ByteArray), .bool false] 110 (0, 0)) (by (with_reducible repeat first | apply bN | apply bD | apply bA); exact BK173.out)) : gb181 ≠ gb173)); have n14_ := Aside0.mk ((by rw [hg]; exact Nat.ne_of_lt (blk_lt (g := gb177) (o := .cells #[.string t175, .bool t176] 110 (0, 0)) (by (with_reducible repeat first | apply bN | apply bD | apply bA); exact BK177.out)) : gb177 ≠ gb181)); have n15_ := Aside0.mk ((by rw [hg]; exact Nat.ne_of_gt (blk_lt (g := gb177) (o := .cells #[.string t175, .bool t176] 110 (0, 0)) (by (with_reducible repeat first | apply bN | apply bD | apply bA); exact BK177.out)) : gb181 ≠ gb177)); clear BK171; clear BK172; clear BK173; clear BK177; clear HB; have BK171 := n0_; have BK172 := n1_; have BK173 := n2_; have BK177 := n3_; have HB := n4_; have BK181 := n5_; have GW181 := n6_; have GE181 := n7_; have NB171_181 := n8_; have NB181_171 := n9_; have NB172_181 := n10_; have NB181_172 := n11_; have NB173_181 := n12_; have NB181_173 := n13_; have NB177_181 := n14_; have NB181_177 := n15_; clear n0_ n1_ n2_ n3_ n4_ n5_ n6_ n7_ n8_ n9_ n10_ n11_ n12_ n13_ n14_ n15_; clear hb hbox hg; have hnb18 := NB181_171.out; have hnc18 := NB171_181.out; have hnb19 := NB181_172.out; have hnc19 := NB172_181.out; have hnb20 := NB181_173.out; have hnc20 := NB173_181.out; have hnb21 := NB181_177.out; have hnc21 := NB177_181.out; have hcz22_0 : w17.cell? ⟨gb181, 0, none⟩ = some (.string (⟨#[]⟩ : ByteArray)) := (bC BK181.out 0).trans rfl; have hcz22_1 : w17.cell? ⟨gb181, 1, none⟩ = some (.bool false) := (bC BK181.out 1).trans rfl; have hfz22_0 := bF BK181.out 0; have hfz22_1 := bF BK181.out 1))
 have n0_ : Aside0 (((w17.setCell ⟨gb181, 0, none⟩ (.string t179)).setCell ⟨gb181, 1, none⟩ (.bool t180)).heap[gb171]? = some (.cells #[.string a0_0, .bool a0_1] 110 (0, 0))) := ⟨by (with_reducible repeat first | apply bN | apply bD | apply bA); refine bR ?_ NB171_181.out _; (with_reducible repeat first | apply bN | apply bD | apply bA); refine bR ?_ NB171_181.out _; (with_reducible repeat first | apply bN | apply bD | apply bA); exact BK171.out⟩
 have n1_ : Aside0 (((w17.setCell ⟨gb181, 0, none⟩ (.string t179)).setCell ⟨gb181, 1, none⟩ (.bool t180)).heap[gb172]? = some (.cells #[.string (⟨#[]⟩ : ByteArray), .int .i64 0] 40 (0, 0))) := ⟨by (with_reducible repeat first | apply bN | apply bD | apply bA); refine bR ?_ NB172_181.out _; (with_reducible repeat first | apply bN | apply bD | apply bA); refine bR ?_ NB172_181.out _; (with_reducible repeat first | apply bN | apply bD | apply bA); exact BK172.out⟩
 have n2_ : Aside0 (((w17.setCell ⟨gb181, 0, none⟩ (.string t179)).setCell ⟨gb181, 1, none⟩ (.bool t180)).heap[gb173]? = some (.cells #[.string (⟨#[]⟩ : ByteArray), .bool false] 110 (0, 0))) := ⟨by (with_reducible repeat first | apply bN | apply bD | apply bA); refine bR ?_ NB173_181.out _; (with_reducible repeat first | apply bN | apply bD | apply bA); refine bR ?_ NB173_181.out _; (with_reducible repeat first | apply bN | apply bD | apply bA); exact BK173.out⟩
 have n3_ : Aside0 (((w17.setCell ⟨gb181, 0, none⟩ (.string t179)).setCell ⟨gb181, 1, none⟩ (.bool t180)).heap[gb177]? = some (.cells #[.string t175, .bool t176] 110 (0, 0))) := ⟨by (with_reducible repeat first | apply bN | apply bD | apply bA); refine bR ?_ NB177_181.out _; (with_reducible repeat first | apply bN | apply bD | apply bA); refine bR ?_ NB177_181.out _; (with_reducible repeat first | apply bN | apply bD | apply bA); exact BK177.out⟩
 have n4_ : Aside0 (((w17.setCell ⟨gb181, 0, none⟩ (.string t179)).setCell ⟨gb181, 1, none⟩ (.bool t180)).heap[gb181]? = some (.cells #[.string t179, .bool t180] 110 (0, 0))) := ⟨by (with_reducible repeat first | apply bN | apply bD | apply bA); refine bP (cs := #[.string t179, .bool false]) ?_ 1 _ rfl; (with_reducible repeat first | apply bN | apply bD | apply bA); refine bP (cs := #[.string (⟨#[]⟩ : ByteArray), .bool false]) ?_ 0 _ rfl; (with_reducible repeat first | apply bN | apply bD | apply bA); exact BK181.out⟩
 have n5_ : Aside0 (Below w.heap.size w ((w17.setCell ⟨gb181, 0, none⟩ (.string t179)).setCell ⟨gb181, 1, none⟩ (.bool t180))) := ⟨by repeat (first | (with_reducible first | exact HB.out | apply lA | apply lN | apply lD | refine lS ?_ GE171.out | refine lS ?_ GE172.out | refine lS ?_ GE173.out | refine lS ?_ GE177.out | refine lS ?_ GE181.out) | exact HB.out)⟩
 (try clear BK171)
 (try clear BK172)
 (try clear BK173)
 (try clear BK177)
 (try clear BK181)
 (try clear HB)
 generalize ((w17.setCell ⟨gb181, 0, none⟩ (.string t179)).setCell ⟨gb181, 1, none⟩ (.bool t180)) = w23 at n0_ n1_ n2_ n3_ n4_ n5_ ⊢
 have BK171 := n0_
 have BK172 := n1_
 have BK173 := n2_
 have BK177 := n3_
 have BK181 := n4_
 have HB := n5_
 clear n0_ n1_ n2_ n3_ n4_ n5_
 have n0_ := Aside0.mk (bD BK171.out)
 have n1_ := Aside0.mk (bD BK172.out)
 have n2_ := Aside0.mk (bD BK173.out)
 have n3_ := Aside0.mk (bD BK177.out)
 have n4_ := Aside0.mk (bD BK181.out)
 have n5_ := Aside0.mk (lD HB.out)
 clear BK171
 clear BK172
 clear BK173
 clear BK177
 clear BK181
 clear HB
 have BK171 := n0_
 have BK172 := n1_
 have BK173 := n2_
 have BK177 := n3_
 have BK181 := n4_
 have HB := n5_
 clear n0_ n1_ n2_ n3_ n4_ n5_
 refine start_ (n := 6) (S := fun w' => w'.cell? ⟨gb181, 0, none⟩ = some (.string t179) ∧ w'.cell? ⟨gb181, 1, none⟩ = some (.bool t180)) (ds := []) #[false, false, false, false, false, false] (by kernel_rfl) rfl rfl ⟨(bC BK181.out 0).trans rfl, (bC BK181.out 1).trans rfl⟩ (fun hHeld => ?_)
 generalize w23.drew = w24 at BK171 BK172 BK173 BK177 BK181 HB hHeld ⊢
 refine pure_ (i := 0) (N := some 18) (v := ?_) (a' := ?_) #[true, false, false, false, false, false] rfl rfl (by kernel_rfl) (fun _ _ _ h => h) (Or.inl ⟨by rfl, ?_⟩) ?_ ?_
 rotate_left
 ·intro w'
  go_simp
  with_reducible rfl
 rotate_left
 ·simp only [Act.put, List.setIfInBounds_toArray, List.set_cons_zero, List.set_cons_succ, i64_w, i32_w]
  rfl
 refine pure_ (i := 1) (N := some 19) (v := ?_) (a' := ?_) #[true, true, false, false, false, false] rfl rfl (by kernel_rfl) (fun _ _ _ h => h) (Or.inl ⟨by rfl, ?_⟩) ?_ ?_
 rotate_left
 ·intro w'
  go_simp
  with_reducible rfl
 rotate_left
 ·simp only [Act.put, List.setIfInBounds_toArray, List.set_cons_zero, List.set_cons_succ, i64_w, i32_w]
  rfl
 refine pure_ (i := 2) (N := some 20) (v := ?_) (a' := ?_) #[true, true, true, false, false, false] rfl rfl (by kernel_rfl) (fun _ _ _ h => h) (Or.inl ⟨by rfl, ?_⟩) ?_ ?_
 rotate_left
 ·intro w'
  go_simp
  with_reducible rfl
 rotate_left
 ·simp only [Act.put, List.setIfInBounds_toArray, List.set_cons_zero, List.set_cons_succ, i64_w, i32_w]
  rfl
 refine take_ (i := 3) (N := some 21) (v := ?_) (a' := ?_) #[true, true, true, true, false, false] rfl rfl (by kernel_rfl) (fun _ _ _ h => h) (Or.inl ⟨by rfl, ?_⟩) hHeld ?_ ?_
 rotate_left
 ·rintro w' ⟨s0, s1⟩
  go_simp
  with_reducible rfl
 rotate_left
 ·simp only [Act.put, List.setIfInBounds_toArray, List.set_cons_zero, List.set_cons_succ, i64_w, i32_w]
  rfl
 refine one_ (i := 4) (N := none) #[true, true, true, true, true, false] rfl rfl (by kernel_rfl) (by decide) (fun K hK => ?_)
 have hs25 : w24.cell? ⟨gb172, 0, none⟩ = some (.string (⟨#[]⟩ : ByteArray)) := (bC BK172.out 0).trans rfl
 have hfs25 := bF BK172.out 0
 have hns25_0 := NB171_172.out
 have hns25_2 := NB173_172.out
 have hns25_3 := NB177_172.out
 have hns25_4 := NB181_172.out
 have hms25_0 := NB172_171.out
 have hms25_2 := NB172_173.out
 have hms25_3 := NB172_177.out
 have hms25_4 := NB172_181.out
 have hs26 : w24.cell? ⟨gb172, 1, none⟩ = some (.int .i64 0) := (bC BK172.out 1).trans rfl
 have hfs26 := bF BK172.out 1
 have hns26_0 := NB171_172.out
 have hns26_2 := NB173_172.out
 have hns26_3 := NB177_172.out
 have hns26_4 := NB181_172.out
 have hms26_0 := NB172_171.out
 have hms26_2 := NB172_173.out
 have hms26_3 := NB172_177.out
 have hms26_4 := NB172_181.out
 refine skip_ (w1 := ?_) (by rfl) rfl ?_ ?_
 rotate_left
 ·go_simp
  rfl
 refine hK.out _ _ ⟨((cell_far (p := ⟨gb172, _, none⟩) NB181_172.out _).trans (((cell_far (p := ⟨gb172, _, none⟩) NB181_172.out _).trans (hHeld.1)))), ((cell_far (p := ⟨gb172, _, none⟩) NB181_172.out _).trans (((cell_far (p := ⟨gb172, _, none⟩) NB181_172.out _).trans (hHeld.2))))⟩ (fun hHeld => ?_)
 clear hK K
 refine one_ (i := 5) (N := none) #[true, true, true, true, true, true] rfl rfl (by kernel_rfl) (by decide) (fun K hK => ?_)
 have hs27 : w24.cell? ⟨gb173, 0, none⟩ = some (.string (⟨#[]⟩ : ByteArray)) := (bC BK173.out 0).trans rfl
 have hfs27 := bF BK173.out 0
 have hns27_0 := NB171_173.out
 have hns27_1 := NB172_173.out
 have hns27_3 := NB177_173.out
 have hns27_4 := NB181_173.out
 have hms27_0 := NB173_171.out
 have hms27_1 := NB173_172.out
 have hms27_3 := NB173_177.out
 have hms27_4 := NB173_181.out
 have hs28 : w24.cell? ⟨gb173, 1, none⟩ = some (.bool false) := (bC BK173.out 1).trans rfl
 have hfs28 := bF BK173.out 1
 have hns28_0 := NB171_173.out
 have hns28_1 := NB172_173.out
 have hns28_3 := NB177_173.out
 have hns28_4 := NB181_173.out
 have hms28_0 := NB173_171.out
 have hms28_1 := NB173_172.out
 have hms28_3 := NB173_177.out
 have hms28_4 := NB173_181.out
 refine skip_ (w1 := ?_) (by rfl) rfl ?_ ?_
 rotate_left
 ·go_simp
  rfl
 refine hK.out _ _ ⟨((cell_far (p := ⟨gb173, _, none⟩) NB181_173.out _).trans (((cell_far (p := ⟨gb173, _, none⟩) NB181_173.out _).trans (hHeld.1)))), ((cell_far (p := ⟨gb173, _, none⟩) NB181_173.out _).trans (((cell_far (p := ⟨gb173, _, none⟩) NB181_173.out _).trans (hHeld.2))))⟩ (fun hHeld => ?_)
 clear hK K
 refine done_ (by kernel_rfl) ?_
 try go_wp2
 refine bodyPost_ret (results_cc rfl _ _ gb172 gb173 40 110 #[.string t174, .int .i64 t178] #[.string t179, .bool t180] (0, 0) (0, 0) _ _ rfl (by (with_reducible repeat first | apply bN | apply bD | apply bA); refine bR ?_ NB172_173.out _; (with_reducible repeat first | apply bN | apply bD | apply bA); refine bR ?_ NB172_173.out _; (with_reducible repeat first | apply bN | apply bD | apply bA); refine bP (cs := #[.string t174, .int .i64 0]) ?_ 1 _ rfl; (with_reducible repeat first | apply bN | apply bD | apply bA); refine bP (cs := #[.string (⟨#[]⟩ : ByteArray), .int .i64 0]) ?_ 0 _ rfl; (with_reducible repeat first | apply bN | apply bD | apply bA); exact BK172.out) Try.underlying40 rfl (by kernel_rfl) rfl (by (with_reducible repeat first | apply bN | apply bD | apply bA); refine bP (cs := #[.string t179, .bool false]) ?_ 1 _ rfl; (with_reducible repeat first | apply bN | apply bD | apply bA); refine bP (cs := #[.string (⟨#[]⟩ : ByteArray), .bool false]) ?_ 0 _ rfl; (with_reducible repeat first | apply bN | apply bD | apply bA); refine bR ?_ NB173_172.out _; (with_reducible repeat first | apply bN | apply bD | apply bA); refine bR ?_ NB173_172.out _; (with_reducible repeat first | apply bN | apply bD | apply bA); exact BK173.out) Try.underlying110 rfl (by kernel_rfl)) rfl ?_
 exact ⟨by first | rfl | (simp [errW_none, errW_some] <;> rfl) | (simp [*, errW_none, errW_some] <;> rfl), by repeat (first | (with_reducible first | exact HB.out | apply lA | apply lN | apply lD | refine lS ?_ GE171.out | refine lS ?_ GE172.out | refine lS ?_ GE173.out | refine lS ?_ GE177.out | refine lS ?_ GE181.out) | exact HB.out)⟩

end Go.Proofs.Ytlgihjhlkpmpnaa.PWire
