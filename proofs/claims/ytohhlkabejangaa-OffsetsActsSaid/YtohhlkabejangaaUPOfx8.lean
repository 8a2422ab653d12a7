import Derived.Test.YtohhlkabejangaaUPOfx0
import Derived.Test.YtohhlkabejangaaUPOfx1
import Derived.Test.YtohhlkabejangaaUPOfx7
-- halved
namespace Go.Proofs.Ytohhlkabejangaa.POf
open Go.Proofs.Ytohhlkabejangaa.Hand
open Go.RowKit Go.Proofs.YtohhlkabejangaaW.PrintWords Go.Proofs.YtohhlkabejangaaW.PrintLast Go.Proofs.YtohhlkabejangaaW.PrintMore
open Go.Proofs.YtohhlkabejangaaW.PrintWords renaming blk_drewN → bN, blk_drew → bD, blk_alloc → bA, below_alloc → lA, pw_below_drewN → lN, below_drew1 → lD, below_set → lS, blk_cell → bC, blk_frozen → bF, blk_far → bR, blk_put → bP, blk_below → bB
open Go.Proofs.YtohhlkabejangaaW.PrintWords.Aside0 renaming mk → mkA
open List renaming setIfInBounds_toArray → zsI, set_cons_zero → zs0, set_cons_succ → zs1
open Go.Proofs.YtohhlkabejangaaW.PrintWords.Kd renaming R_alloc → zrA, R_drewN → zrN, R_drew → zrD, R_far → zrF, R_below → zrB, R_mono → zrM
open Go.Proofs.YtohhlkabejangaaW.PrintWords renaming below_step → zbS
attribute [local go_sem] max2_int min2_int max_two min_two max_three min_three max_four min_four
set_option linter.unusedVariables false
set_option linter.unusedSimpArgs false
attribute [local go_sem high] eqA72
def weighlockref01_Untext.f (k : Nat) (a0 : ByteArray) : Option (ByteArray × Int × Int) := (weighlockref01_Unchain.f k a0).bind fun bt161 => (if bt161.2.2 = 0 then (if bt161.1 > 1099511627776 then (some ((⟨#[]⟩ : ByteArray), 0, 2)) else (if (wrap64 (bt161.1)) > (wrap64 ((a0.size : Int) - bt161.2.1)) then (some ((⟨#[]⟩ : ByteArray), 0, 3)) else (if 0 ≤ bt161.2.1 then (if bt161.2.1 ≤ (wrap64 (bt161.2.1 + (wrap64 (bt161.1)))) then (if (wrap64 (bt161.2.1 + (wrap64 (bt161.1)))) ≤ (a0.size : Int) then (some (a0.extract (bt161.2.1 : Int).toNat ((wrap64 (bt161.2.1 + (wrap64 (bt161.1)))) : Int).toNat, wrap64 (bt161.2.1 + (wrap64 (bt161.1))), 0)) else (none)) else (none)) else (none)))) else (some ((⟨#[]⟩ : ByteArray), 0, bt161.2.2)))
theorem weighlockref01_Untext.mono : ∀ a0 k, LeO (weighlockref01_Untext.f k a0) (weighlockref01_Untext.f (k + 1) a0) := by
 intro a0 k
 unfold weighlockref01_Untext.f
 repeat' first
   | (with_reducible exact weighlockref01_Unchain.mono _ _)
   | (with_reducible exact LeO.refl _)
   | (with_reducible exact LeO.none _)
   | (with_reducible refine LeO.ite ?_ ?_)
   | (with_reducible refine LeO.bind ?_ (fun _ => ?_))
   | exact weighlockref01_Unchain.mono _ _
   | exact LeO.none _
   | refine LeO.ite ?_ ?_
   | refine LeO.bind ?_ (fun _ => ?_)
def weighlockref01_Untext.T8 : Bool × List (List Nat × List Nat) := (true, [([], []), ([], []), ([1], [1]), ([], []), ([3], [3]), ([], []), ([5], [5]), ([6], [6]), ([4, 7], [4, 7]), ([0, 2, 8], [0, 2, 8]), ([], []), ([10], [10]), ([], []), ([12], [12]), ([13], [13]), ([11, 14], [11, 14]), ([9, 15], [9, 15]), ([16, 0, 1, 2, 3, 4, 5, 6, 7, 8, 9, 10, 11, 12, 13, 14, 15, 16], [16])])
def weighlockref01_Untext.B8 : List Nat := [0, 0, 2, 0, 8, 0, 32, 96, 248, 511, 0, 1024, 0, 4096, 12288, 31744, 65535, 131071]
theorem weighlockref01_Untext.tab8 : rtab .any (opsOf Try.f104 8) = weighlockref01_Untext.T8 := by kernel_rfl
theorem weighlockref01_Untext.bits8 : waitsOk weighlockref01_Untext.T8.2 weighlockref01_Untext.B8 = true := by kernel_rfl
set_option maxHeartbeats 8000000 in
set_option maxRecDepth 100000 in
theorem weighlockref01_Untext.calls (k : Nat) (a0 : ByteArray) (r1 : ByteArray) (r2 : Int) (r3 : Int) (w : World) (h : weighlockref01_Untext.f k a0 = some (r1, r2, r3)) :
  Calls Try.prog 104 #[.string a0] w fun e w' => e = .returned (.agg #[.string r1, .int .i64 r2, .int .i64 r3]) ∧ Below w.heap.size w w' := by
 have hu173 := Try.underlying173
 have hu216 := Try.underlying216
 have HB := mkA (Below.refl w.heap.size w)
 have H : ((weighlockref01_Unchain.f k a0).bind fun bt161 => (if bt161.2.2 = 0 then (if bt161.1 > 1099511627776 then (some ((⟨#[]⟩ : ByteArray), 0, 2)) else (if (wrap64 (bt161.1)) > (wrap64 ((a0.size : Int) - bt161.2.1)) then (some ((⟨#[]⟩ : ByteArray), 0, 3)) else (if 0 ≤ bt161.2.1 then (if bt161.2.1 ≤ (wrap64 (bt161.2.1 + (wrap64 (bt161.1)))) then (if (wrap64 (bt161.2.1 + (wrap64 (bt161.1)))) ≤ (a0.size : Int) then (some (a0.extract (bt161.2.1 : Int).toNat ((wrap64 (bt161.2.1 + (wrap64 (bt161.1)))) : Int).toNat, wrap64 (bt161.2.1 + (wrap64 (bt161.1))), 0)) else (none)) else (none)) else (none)))) else (some ((⟨#[]⟩ : ByteArray), 0, bt161.2.2)))) = some (r1, r2, r3) := h
 clear h
 replace H := Option.bind_eq_some_iff.mp H
 obtain ⟨⟨t161, t162, t163⟩, A20, H⟩ := H
 replace H : (if t163 = 0 then (if t161 > 1099511627776 then (some ((⟨#[]⟩ : ByteArray), 0, 2)) else (if (wrap64 (t161)) > (wrap64 ((a0.size : Int) - t162)) then (some ((⟨#[]⟩ : ByteArray), 0, 3)) else (if 0 ≤ t162 then (if t162 ≤ (wrap64 (t162 + (wrap64 (t161)))) then (if (wrap64 (t162 + (wrap64 (t161)))) ≤ (a0.size : Int) then (some (a0.extract (t162 : Int).toNat ((wrap64 (t162 + (wrap64 (t161)))) : Int).toNat, wrap64 (t162 + (wrap64 (t161))), 0)) else (none)) else (none)) else (none)))) else (some ((⟨#[]⟩ : ByteArray), 0, t163))) = some (r1, r2, r3) := H
 have A2 := mkA A20
 clear A20
 by_cases c3 : t163 = 0
 ·rw [if_pos c3] at H
  have c3b0 : (t163 == 0) = true := beq_iff_eq.mpr c3
  have c3b1 : (t163 != 0) = false := bne_eq_false_iff_eq.mpr c3
  clear c3
  by_cases c4 : t161 > 1099511627776
  ·rw [if_pos c4] at H
   have c4b0 : decide (1099511627776 < t161) = true := decide_eq_true c4
   clear c4
   simp only [Option.some.injEq, Prod.mk.injEq] at H
   obtain ⟨rfl, rfl, rfl⟩ := H
   go_enter Try.func104, Try.ntmps104
   go_wp2_with (first | ((with_reducible refine gate_dst (N := 2) rfl ?_); refine box_event ?hg (N := 2) ?hd (cs := #[.string (⟨#[]⟩ : ByteArray), .int .i64 0, .int .i64 0]) (t := 173) ?hr ?_; (case hd => rfl); (case hg => rfl); (case hr => first | (go_simp; done) | (go_simp; rfl)); intro gb160 hg w5 hbox hb; have n0_ := mkA (zbS (by repeat (first | (with_reducible first | exact HB.out | apply lA | apply lN | apply lD) | exact HB.out)) hb); have n1_ := mkA (hbox); have n2_ := mkA ((by rw [hg]; exact (below_size (by repeat (first | (with_reducible first | exact HB.out | apply lA | apply lN | apply lD) | exact HB.out))) : w.heap.size ≤ gb160)); have n3_ := mkA ((by rw [hg]; exact (below_size (by repeat (first | (with_reducible first | exact HB.out | apply lA | apply lN | apply lD) | exact HB.out))) : w.heap.size ≤ gb160)); clear HB; have HB := n0_; have BK160 := n1_; have GW160 := n2_; have GE160 := n3_; clear n0_ n1_ n2_ n3_; clear hb hbox hg) | ((with_reducible refine gate_callee (f := 140) rfl ?_); refine goesL_ (some 5) rfl rfl Try.func140 (by kernel_rfl) rfl #[.string a0] rfl (by (try simp only [List.map_toArray, List.map_cons, List.map_nil]); first | done | rfl | (simp only [List.length_drop, List.length_take]; rfl)) ?_; (with_reducible refine (weighlockref01_Unchain.calls k a0 t161 t162 t163 _ A2.out).mono ?_); rintro e w6 ⟨rfl, hb⟩; refine ⟨_, rfl, ?_⟩; have n0_ := mkA (bB (g := gb160) (o := .cells #[.string (⟨#[]⟩ : ByteArray), .int .i64 0, .int .i64 0] 173 (0, 0)) (by (with_reducible repeat first | apply bN | apply bD | apply bA); exact BK160.out) hb); have n1_ := mkA (zbS (by repeat (first | (with_reducible first | exact HB.out | apply lA | apply lN | apply lD | refine lS ?_ GE160.out) | exact HB.out)) hb); clear BK160; clear HB; have BK160 := n0_; have HB := n1_; clear n0_ n1_; (try clear hb); (try clear hb2); (try clear hk); (try clear hi)) | ((with_reducible refine gate_dst (N := 3) rfl ?_); refine box_event ?hg (N := 3) ?hd (cs := #[.int .u64 0, .int .i64 0, .int .i64 0]) (t := 216) ?hr ?_; (case hd => rfl); (case hg => rfl); (case hr => first | (go_simp; done) | (go_simp; rfl)); intro gb164 hg w7 hbox hb; have n0_ := mkA (bB (g := gb160) (o := .cells #[.string (⟨#[]⟩ : ByteArray), .int .i64 0, .int .i64 0] 173 (0, 0)) (by (with_reducible repeat first | apply bN | apply bD | apply bA); exact BK160.out) hb); have n1_ := mkA (zbS (by repeat (first | (with_reducible first | exact HB.out | apply lA | apply lN | apply lD | refine lS ?_ GE160.out) | exact HB.out)) hb); have n2_ := mkA (hbox); have n3_ := mkA ((by rw [hg]; exact (below_size (by repeat (first | (with_reducible first | exact HB.out | apply lA | apply lN | apply lD | refine lS ?_ GE160.out) | exact HB.out))) : w.heap.size ≤ gb164)); have n4_ := mkA ((by rw [hg]; exact (below_size (by repeat (first | (with_reducible first | exact HB.out | apply lA | apply lN | apply lD | refine lS ?_ GE160.out) | exact HB.out))) : w.heap.size ≤ gb164)); have n5_ := mkA ((by rw [hg]; exact Nat.ne_of_lt (blk_lt (g := gb160) (o := .cells #[.string (⟨#[]⟩ : ByteArray), .int .i64 0, .int .i64 0] 173 (0, 0)) (by (with_reducible repeat first | apply bN | apply bD | apply bA); exact BK160.out)) : gb160 ≠ gb164)); have n6_ := mkA ((by rw [hg]; exact Nat.ne_of_gt (blk_lt (g := gb160) (o := .cells #[.string (⟨#[]⟩ : ByteArray), .int .i64 0, .int .i64 0] 173 (0, 0)) (by (with_reducible repeat first | apply bN | apply bD | apply bA); exact BK160.out)) : gb164 ≠ gb160)); clear BK160; clear HB; have BK160 := n0_; have HB := n1_; have BK164 := n2_; have GW164 := n3_; have GE164 := n4_; have NB160_164 := n5_; have NB164_160 := n6_; clear n0_ n1_ n2_ n3_ n4_ n5_ n6_; clear hb hbox hg; have hnb8 := NB164_160.out; have hnc8 := NB160_164.out; have hcz9_0 : w7.cell? ⟨gb164, 0, none⟩ = some (.int .u64 0) := (bC BK164.out 0).trans rfl; have hcz9_1 : w7.cell? ⟨gb164, 1, none⟩ = some (.int .i64 0) := (bC BK164.out 1).trans rfl; have hcz9_2 : w7.cell? ⟨gb164, 2, none⟩ = some (.int .i64 0) := (bC BK164.out 2).trans rfl; have hfz9_0 := bF BK164.out 0; have hfz9_1 := bF BK164.out 1; have hfz9_2 := bF BK164.out 2; have hcz10_0 : w7.cell? ⟨gb160, 0, none⟩ = some (.string (⟨#[]⟩ : ByteArray)) := (bC BK160.out 0).trans rfl; have hcz10_1 : w7.cell? ⟨gb160, 1, none⟩ = some (.int .i64 0) := (bC BK160.out 1).trans rfl; have hcz10_2 : w7.cell? ⟨gb160, 2, none⟩ = some (.int .i64 0) := (bC BK160.out 2).trans rfl; have hfz10_0 := bF BK160.out 0; have hfz10_1 := bF BK160.out 1; have hfz10_2 := bF BK160.out 2))
   refine bodyPost_ret (results_cell_row rfl _ _ gb160 173 #[.string (⟨#[]⟩ : ByteArray), .int .i64 0, .int .i64 2] (0, 0) _ rfl (by (with_reducible repeat first | apply bN | apply bD | apply bA); refine bP (cs := #[.string (⟨#[]⟩ : ByteArray), .int .i64 0, .int .i64 0]) ?_ 2 _ rfl; (with_reducible repeat first | apply bN | apply bD | apply bA); refine bP (cs := #[.string (⟨#[]⟩ : ByteArray), .int .i64 0, .int .i64 0]) ?_ 1 _ rfl; (with_reducible repeat first | apply bN | apply bD | apply bA); refine bP (cs := #[.string (⟨#[]⟩ : ByteArray), .int .i64 0, .int .i64 0]) ?_ 0 _ rfl; (with_reducible repeat first | apply bN | apply bD | apply bA); refine bR ?_ NB160_164.out _; (with_reducible repeat first | apply bN | apply bD | apply bA); refine bR ?_ NB160_164.out _; (with_reducible repeat first | apply bN | apply bD | apply bA); refine bR ?_ NB160_164.out _; (with_reducible repeat first | apply bN | apply bD | apply bA); exact BK160.out) Try.underlying173 rfl (by kernel_rfl)) rfl ?_
   exact ⟨by first | rfl | (simp [errW_none, errW_some] <;> rfl) | (simp [*, errW_none, errW_some] <;> rfl), by repeat (first | (with_reducible first | exact HB.out | apply lA | apply lN | apply lD | refine lS ?_ GE160.out | refine lS ?_ GE164.out) | exact HB.out)⟩
  ·rw [if_neg c4] at H
   have c4b0 : decide (1099511627776 < t161) = false := decide_eq_false c4
   clear c4
   by_cases c11 : (wrap64 (t161)) > (wrap64 ((a0.size : Int) - t162))
   ·rw [if_pos c11] at H
    have c11b0 : decide ((wrap64 ((a0.size : Int) - t162)) < (wrap64 (t161))) = true := decide_eq_true c11
    clear c11
    simp only [Option.some.injEq, Prod.mk.injEq] at H
    obtain ⟨rfl, rfl, rfl⟩ := H
    go_enter Try.func104, Try.ntmps104
    go_wp2_with (first | ((with_reducible refine gate_dst (N := 2) rfl ?_); refine box_event ?hg (N := 2) ?hd (cs := #[.string (⟨#[]⟩ : ByteArray), .int .i64 0, .int .i64 0]) (t := 173) ?hr ?_; (case hd => rfl); (case hg => rfl); (case hr => first | (go_simp; done) | (go_simp; rfl)); intro gb160 hg w12 hbox hb; have n0_ := mkA (zbS (by repeat (first | (with_reducible first | exact HB.out | apply lA | apply lN | apply lD) | exact HB.out)) hb); have n1_ := mkA (hbox); have n2_ := mkA ((by rw [hg]; exact (below_size (by repeat (first | (with_reducible first | exact HB.out | apply lA | apply lN | apply lD) | exact HB.out))) : w.heap.size ≤ gb160)); have n3_ := mkA ((by rw [hg]; exact (below_size (by repeat (first | (with_reducible first | exact HB.out | apply lA | apply lN | apply lD) | exact HB.out))) : w.heap.size ≤ gb160)); clear HB; have HB := n0_; have BK160 := n1_; have GW160 := n2_; have GE160 := n3_; clear n0_ n1_ n2_ n3_; clear hb hbox hg) | ((with_reducible refine gate_callee (f := 140) rfl ?_); refine goesL_ (some 5) rfl rfl Try.func140 (by kernel_rfl) rfl #[.string a0] rfl (by (try simp only [List.map_toArray, List.map_cons, List.map_nil]); first | done | rfl | (simp only [List.length_drop, List.length_take]; rfl)) ?_; (with_reducible refine (weighlockref01_Unchain.calls k a0 t161 t162 t163 _ A2.out).mono ?_); rintro e w13 ⟨rfl, hb⟩; refine ⟨_, rfl, ?_⟩; have n0_ := mkA (bB (g := gb160) (o := .cells #[.string (⟨#[]⟩ : ByteArray), .int .i64 0, .int .i64 0] 173 (0, 0)) (by (with_reducible repeat first | apply bN | apply bD | apply bA); exact BK160.out) hb); have n1_ := mkA (zbS (by repeat (first | (with_reducible first | exact HB.out | apply lA | apply lN | apply lD | refine lS ?_ GE160.out) | exact HB.out)) hb); clear BK160; clear HB; have BK160 := n0_; have HB := n1_; clear n0_ n1_; (try clear hb); (try clear hb2); (try clear hk); (try clear hi)) | ((with_reducible refine gate_dst (N := 3) rfl ?_); refine box_event ?hg (N := 3) ?hd (cs := #[.int .u64 0, .int .i64 0, .int .i64 0]) (t := 216) ?hr ?_; (case hd => rfl); (case hg => rfl); (case hr => first | (go_simp; done) | (go_simp; rfl)); intro gb164 hg w14 hbox hb; have n0_ := mkA (bB (g := gb160) (o := .cells #[.string (⟨#[]⟩ : ByteArray), .int .i64 0, .int .i64 0] 173 (0, 0)) (by (with_reducible repeat first | apply bN | apply bD | apply bA); exact BK160.out) hb); have n1_ := mkA (zbS (by repeat (first | (with_reducible first | exact HB.out | apply lA | apply lN | apply lD | refine lS ?_ GE160.out) | exact HB.out)) hb); have n2_ := mkA (hbox); have n3_ := mkA ((by rw [hg]; exact (below_size (by repeat (first | (with_reducible first | exact HB.out | apply lA | apply lN | apply lD | refine lS ?_ GE160.out) | exact HB.out))) : w.heap.size ≤ gb164)); have n4_ := mkA ((by rw [hg]; exact (below_size (by repeat (first | (with_reducible first | exact HB.out | apply lA | apply lN | apply lD | refine lS ?_ GE160.out) | exact HB.out))) : w.heap.size ≤ gb164)); have n5_ := mkA ((by rw [hg]; exact Nat.ne_of_lt (blk_lt (g := gb160) (o := .cells #[.string (⟨#[]⟩ : ByteArray), .int .i64 0, .int .i64 0] 173 (0, 0)) (by (with_reducible repeat first | apply bN | apply bD | apply bA); exact BK160.out)) : gb160 ≠ gb164)); have n6_ := mkA ((by rw [hg]; exact Nat.ne_of_gt (blk_lt (g := gb160) (o := .cells #[.string (⟨#[]⟩ : ByteArray), .int .i64 0, .int .i64 0] 173 (0, 0)) (by (with_reducible repeat first | apply bN | apply bD | apply bA); exact BK160.out)) : gb164 ≠ gb160)); clear BK160; clear HB; have BK160 := n0_; have HB := n1_; have BK164 := n2_; have GW164 := n3_; have GE164 := n4_; have NB160_164 := n5_; have NB164_160 := n6_; clear n0_ n1_ n2_ n3_ n4_ n5_ n6_; clear hb hbox hg; have hnb15 := NB164_160.out; have hnc15 := NB160_164.out; have hcz16_0 : w14.cell? ⟨gb164, 0, none⟩ = some (.int .u64 0) := (bC BK164.out 0).trans rfl; have hcz16_1 : w14.cell? ⟨gb164, 1, none⟩ = some (.int .i64 0) := (bC BK164.out 1).trans rfl; have hcz16_2 : w14.cell? ⟨gb164, 2, none⟩ = some (.int .i64 0) := (bC BK164.out 2).trans rfl; have hfz16_0 := bF BK164.out 0; have hfz16_1 := bF BK164.out 1; have hfz16_2 := bF BK164.out 2; have hcz17_0 : w14.cell? ⟨gb160, 0, none⟩ = some (.string (⟨#[]⟩ : ByteArray)) := (bC BK160.out 0).trans rfl; have hcz17_1 : w14.cell? ⟨gb160, 1, none⟩ = some (.int .i64 0) := (bC BK160.out 1).trans rfl; have hcz17_2 : w14.cell? ⟨gb160, 2, none⟩ = some (.int .i64 0) := (bC BK160.out 2).trans rfl; have hfz17_0 := bF BK160.out 0; have hfz17_1 := bF BK160.out 1; have hfz17_2 := bF BK160.out 2))
    refine bodyPost_ret (results_cell_row rfl _ _ gb160 173 #[.string (⟨#[]⟩ : ByteArray), .int .i64 0, .int .i64 3] (0, 0) _ rfl (by (with_reducible repeat first | apply bN | apply bD | apply bA); refine bP (cs := #[.string (⟨#[]⟩ : ByteArray), .int .i64 0, .int .i64 0]) ?_ 2 _ rfl; (with_reducible repeat first | apply bN | apply bD | apply bA); refine bP (cs := #[.string (⟨#[]⟩ : ByteArray), .int .i64 0, .int .i64 0]) ?_ 1 _ rfl; (with_reducible repeat first | apply bN | apply bD | apply bA); refine bP (cs := #[.string (⟨#[]⟩ : ByteArray), .int .i64 0, .int .i64 0]) ?_ 0 _ rfl; (with_reducible repeat first | apply bN | apply bD | apply bA); refine bR ?_ NB160_164.out _; (with_reducible repeat first | apply bN | apply bD | apply bA); refine bR ?_ NB160_164.out _; (with_reducible repeat first | apply bN | apply bD | apply bA); refine bR ?_ NB160_164.out _; (with_reducible repeat first | apply bN | apply bD | apply bA); exact BK160.out) Try.underlying173 rfl (by kernel_rfl)) rfl ?_
    exact ⟨by first | rfl | (simp [errW_none, errW_some] <;> rfl) | (simp [*, errW_none, errW_some] <;> rfl), by repeat (first | (with_reducible first | exact HB.out | apply lA | apply lN | apply lD | refine lS ?_ GE160.out | refine lS ?_ GE164.out) | exact HB.out)⟩
   ·rw [if_neg c11] at H
    have c11b0 : decide ((wrap64 ((a0.size : Int) - t162)) < (wrap64 (t161))) = false := decide_eq_false c11
    clear c11
    by_cases c18 : 0 ≤ t162
    ·rw [if_pos c18] at H
     have c18b0 := eq_true c18
     have c18b1 : decide (0 ≤ t162) = true := decide_eq_true c18
     clear c18
     by_cases c19 : t162 ≤ (wrap64 (t162 + (wrap64 (t161))))
     ·rw [if_pos c19] at H
      have c19b0 := eq_true c19
      have c19b1 : decide (t162 ≤ (wrap64 (t162 + (wrap64 (t161))))) = true := decide_eq_true c19
      by_cases c20 : (wrap64 (t162 + (wrap64 (t161)))) ≤ (a0.size : Int)
      ·rw [if_pos c20] at H
       have c20b0 := eq_true c20
       have c20b1 : decide ((wrap64 (t162 + (wrap64 (t161)))) ≤ (a0.size : Int)) = true := decide_eq_true c20
       simp only [Option.some.injEq, Prod.mk.injEq] at H
       obtain ⟨rfl, rfl, rfl⟩ := H
       go_enter Try.func104, Try.ntmps104
       try go_wp2_with (first | ((with_reducible refine gate_dst (N := 2) rfl ?_); refine box_event ?hg (N := 2) ?hd (cs := #[.string (⟨#[]⟩ : ByteArray), .int .i64 0, .int .i64 0]) (t := 173) ?hr ?_; (case hd => rfl); (case hg => rfl); (case hr => first | (go_simp; done) | (go_simp; rfl)); intro gb160 hg w21 hbox hb; have n0_ := mkA (zbS (by repeat (first | (with_reducible first | exact HB.out | apply lA | apply lN | apply lD) | exact HB.out)) hb); have n1_ := mkA (hbox); have n2_ := mkA ((by rw [hg]; exact (below_size (by repeat (first | (with_reducible first | exact HB.out | apply lA | apply lN | apply lD) | exact HB.out))) : w.heap.size ≤ gb160)); have n3_ := mkA ((by rw [hg]; exact (below_size (by repeat (first | (with_reducible first | exact HB.out | apply lA | apply lN | apply lD) | exact HB.out))) : w.heap.size ≤ gb160)); clear HB; have HB := n0_; have BK160 := n1_; have GW160 := n2_; have GE160 := n3_; clear n0_ n1_ n2_ n3_; clear hb hbox hg) | ((with_reducible refine gate_callee (f := 140) rfl ?_); refine goesL_ (some 5) rfl rfl Try.func140 (by kernel_rfl) rfl #[.string a0] rfl (by (try simp only [List.map_toArray, List.map_cons, List.map_nil]); first | done | rfl | (simp only [List.length_drop, List.length_take]; rfl)) ?_; (with_reducible refine (weighlockref01_Unchain.calls k a0 t161 t162 t163 _ A2.out).mono ?_); rintro e w22 ⟨rfl, hb⟩; refine ⟨_, rfl, ?_⟩; have n0_ := mkA (bB (g := gb160) (o := .cells #[.string (⟨#[]⟩ : ByteArray), .int .i64 0, .int .i64 0] 173 (0, 0)) (by (with_reducible repeat first | apply bN | apply bD | apply bA); exact BK160.out) hb); have n1_ := mkA (zbS (by repeat (first | (with_reducible first | exact HB.out | apply lA | apply lN | apply lD | refine lS ?_ GE160.out) | exact HB.out)) hb); clear BK160; clear HB; have BK160 := n0_; have HB := n1_; clear n0_ n1_; (try clear hb); (try clear hb2); (try clear hk); (try clear hi)) | ((with_reducible refine gate_dst (N := 3) rfl ?_); refine box_event ?hg (N := 3) ?hd (cs := #[.int .u64 0, .int .i64 0, .int .i64 0]) (t := 216) ?hr ?_; (case hd => rfl); (case hg => rfl); (case hr => first | (go_simp; done) | (go_simp; rfl)); intro gb164 hg w23 hbox hb; have n0_ := mkA (bB (g := gb160) (o := .cells #[.string (⟨#[]⟩ : ByteArray), .int .i64 0, .int .i64 0] 173 (0, 0)) (by (with_reducible repeat first | apply bN | apply bD | apply bA); exact BK160.out) hb); have n1_ := mkA (zbS (by repeat (first | (with_reducible first | exact HB.out | apply lA | apply lN | apply lD | refine lS ?_ GE160.out) | exact HB.out)) hb); have n2_ := mkA (hbox); have n3_ := mkA ((by rw [hg]; exact (below_size (by repeat (first | (with_reducible first | exact HB.out | apply lA | apply lN | apply lD | refine lS ?_ GE160.out) | exact HB.out))) : w.heap.size ≤ gb164)); have n4_ := mkA ((by rw [hg]; exact (below_size (by repeat (first | (with_reducible first | exact HB.out | apply lA | apply lN | apply lD | refine lS ?_ GE160.out) | exact HB.out))) : w.heap.size ≤ gb164)); have n5_ := mkA ((by rw [hg]; exact Nat.ne_of_lt (blk_lt (g := gb160) (o := .cells #[.string (⟨#[]⟩ : ByteArray), .int .i64 0, .int .i64 0] 173 (0, 0)) (by (with_reducible repeat first | apply bN | apply bD | apply bA); exact BK160.out)) : gb160 ≠ gb164)); have n6_ := mkA ((by rw [hg]; exact Nat.ne_of_gt (blk_lt (g := gb160) (o := .cells #[.string (⟨#[]⟩ : ByteArray), .int .i64 0, .int .i64 0] 173 (0, 0)) (by (with_reducible repeat first | apply bN | apply bD | apply bA); exact BK160.out)) : gb164 ≠ gb160)); clear BK160; clear HB; have BK160 := n0_; have HB := n1_; have BK164 := n2_; have GW164 := n3_; have GE164 := n4_; have NB160_164 := n5_; have NB164_160 := n6_; clear n0_ n1_ n2_ n3_ n4_ n5_ n6_; clear hb hbox hg; have hnb24 := NB164_160.out; have hnc24 := NB160_164.out; have hcz25_0 : w23.cell? ⟨gb164, 0, none⟩ = some (.int .u64 0) := (bC BK164.out 0).trans rfl; have hcz25_1 : w23.cell? ⟨gb164, 1, none⟩ = some (.int .i64 0) := (bC BK164.out 1).trans rfl; have hcz25_2 : w23.cell? ⟨gb164, 2, none⟩ = some (.int .i64 0) := (bC BK164.out 2).trans rfl; have hfz25_0 := bF BK164.out 0; have hfz25_1 := bF BK164.out 1; have hfz25_2 := bF BK164.out 2))
       have n0_ : Aside0 ((((w23.setCell ⟨gb164, 0, none⟩ (.int .u64 t161)).setCell ⟨gb164, 1, none⟩ (.int .i64 t162)).setCell ⟨gb164, 2, none⟩ (.int .i64 t163)).heap[gb160]? = some (.cells #[.string (⟨#[]⟩ : ByteArray), .int .i64 0, .int .i64 0] 173 (0, 0))) := ⟨by (with_reducible repeat first | apply bN | apply bD | apply bA); refine bR ?_ NB160_164.out _; (with_reducible repeat first | apply bN | apply bD | apply bA); refine bR ?_ NB160_164.out _; (with_reducible repeat first | apply bN | apply bD | apply bA); refine bR ?_ NB160_164.out _; (with_reducible repeat first | apply bN | apply bD | apply bA); exact BK160.out⟩
       have n1_ : Aside0 ((((w23.setCell ⟨gb164, 0, none⟩ (.int .u64 t161)).setCell ⟨gb164, 1, none⟩ (.int .i64 t162)).setCell ⟨gb164, 2, none⟩ (.int .i64 t163)).heap[gb164]? = some (.cells #[.int .u64 t161, .int .i64 t162, .int .i64 t163] 216 (0, 0))) := ⟨by (with_reducible repeat first | apply bN | apply bD | apply bA); refine bP (cs := #[.int .u64 t161, .int .i64 t162, .int .i64 0]) ?_ 2 _ rfl; (with_reducible repeat first | apply bN | apply bD | apply bA); refine bP (cs := #[.int .u64 t161, .int .i64 0, .int .i64 0]) ?_ 1 _ rfl; (with_reducible repeat first | apply bN | apply bD | apply bA); refine bP (cs := #[.int .u64 0, .int .i64 0, .int .i64 0]) ?_ 0 _ rfl; (with_reducible repeat first | apply bN | apply bD | apply bA); exact BK164.out⟩
       have n2_ : Aside0 (Below w.heap.size w (((w23.setCell ⟨gb164, 0, none⟩ (.int .u64 t161)).setCell ⟨gb164, 1, none⟩ (.int .i64 t162)).setCell ⟨gb164, 2, none⟩ (.int .i64 t163))) := ⟨by repeat (first | (with_reducible first | exact HB.out | apply lA | apply lN | apply lD | refine lS ?_ GE160.out | refine lS ?_ GE164.out) | exact HB.out)⟩
       (try clear BK160)
       (try clear BK164)
       (try clear HB)
       generalize (((w23.setCell ⟨gb164, 0, none⟩ (.int .u64 t161)).setCell ⟨gb164, 1, none⟩ (.int .i64 t162)).setCell ⟨gb164, 2, none⟩ (.int .i64 t163)) = w26 at n0_ n1_ n2_ ⊢
       have BK160 := n0_
       have BK164 := n1_
       have HB := n2_
       clear n0_ n1_ n2_
       have n0_ := mkA (bD BK160.out)
       have n1_ := mkA (bD BK164.out)
       have n2_ := mkA (lD HB.out)
       clear BK160
       clear BK164
       clear HB
       have BK160 := n0_
       have BK164 := n1_
       have HB := n2_
       clear n0_ n1_ n2_
       refine start_ (n := 18) (S := fun w' => w'.cell? ⟨gb164, 0, none⟩ = some (.int .u64 t161) ∧ w'.cell? ⟨gb164, 1, none⟩ = some (.int .i64 t162) ∧ w'.cell? ⟨gb164, 2, none⟩ = some (.int .i64 t163)) (ds := []) #[false, false, false, false, false, false, false, false, false, false, false, false, false, false, false, false, false, false] (by kernel_rfl) rfl rfl ⟨(bC BK164.out 0).trans rfl, (bC BK164.out 1).trans rfl, (bC BK164.out 2).trans rfl⟩ (fun hHeld => ?_); refine with_tabW weighlockref01_Untext.tab8 weighlockref01_Untext.bits8 (fun HT_ HW_ => ?_)
       generalize w26.drew = w27 at BK160 BK164 HB hHeld ⊢
       refine pure_ (i := 0) (N := some 26) (v := ?_) (a' := ?_) #[true, false, false, false, false, false, false, false, false, false, false, false, false, false, false, false, false, false] rfl rfl (any_of HT_.out (by kernel_rfl)) (fun _ _ _ h => h) (Or.inl ⟨by rfl, ?_⟩) ?_ ?_
       rotate_left
       ·intro w'
        go_simp
        with_reducible rfl
       rotate_left
       ·simp only [Act.put, zsI, zs0, zs1, i64_w, i32_w]
        rfl
       refine pure_ (i := 1) (N := some 27) (v := ?_) (a' := ?_) #[true, true, false, false, false, false, false, false, false, false, false, false, false, false, false, false, false, false] rfl rfl (any_of HT_.out (by kernel_rfl)) (fun _ _ _ h => h) (Or.inl ⟨by rfl, ?_⟩) ?_ ?_
       rotate_left
       ·intro w'
        go_simp
        with_reducible rfl
       rotate_left
       ·simp only [Act.put, zsI, zs0, zs1, i64_w, i32_w]
        rfl
       refine pure_ (i := 3) (N := some 29) (v := ?_) (a' := ?_) #[true, true, false, true, false, false, false, false, false, false, false, false, false, false, false, false, false, false] rfl rfl (any_of HT_.out (by kernel_rfl)) (fun _ _ _ h => h) (Or.inl ⟨by rfl, ?_⟩) ?_ ?_
       rotate_left
       ·intro w'
        go_simp
        with_reducible rfl
       rotate_left
       ·simp only [Act.put, zsI, zs0, zs1, i64_w, i32_w]
        rfl
       refine pure_ (i := 5) (N := some 31) (v := ?_) (a' := ?_) #[true, true, false, true, false, true, false, false, false, false, false, false, false, false, false, false, false, false] rfl rfl (any_of HT_.out (by kernel_rfl)) (fun _ _ _ h => h) (Or.inl ⟨by rfl, ?_⟩) ?_ ?_
       rotate_left
       ·intro w'
        go_simp
        with_reducible rfl
       rotate_left
       ·simp only [Act.put, zsI, zs0, zs1, i64_w, i32_w]
        rfl
       refine pure_ (i := 10) (N := some 36) (v := ?_) (a' := ?_) #[true, true, false, true, false, true, false, false, false, false, true, false, false, false, false, false, false, false] rfl rfl (any_of HT_.out (by kernel_rfl)) (fun _ _ _ h => h) (Or.inl ⟨by rfl, ?_⟩) ?_ ?_
       rotate_left
       ·intro w'
        go_simp
        with_reducible rfl
       rotate_left
       ·simp only [Act.put, zsI, zs0, zs1, i64_w, i32_w]
        rfl
       refine pure_ (i := 12) (N := some 38) (v := ?_) (a' := ?_) #[true, true, false, true, false, true, false, false, false, false, true, false, true, false, false, false, false, false] rfl rfl (any_of HT_.out (by kernel_rfl)) (fun _ _ _ h => h) (Or.inl ⟨by rfl, ?_⟩) ?_ ?_
       rotate_left
       ·intro w'
        go_simp
        with_reducible rfl
       rotate_left
       ·simp only [Act.put, zsI, zs0, zs1, i64_w, i32_w]
        rfl
       refine take_ (i := 2) (N := some 28) (v := ?_) (a' := ?_) #[true, true, true, true, false, true, false, false, false, false, true, false, true, false, false, false, false, false] rfl rfl (take_ofW HT_.out HW_.out (by kernel_rfl)) (fun _ _ _ h => h) (Or.inl ⟨by rfl, ?_⟩) hHeld ?_ ?_
       rotate_left
       ·rintro w' ⟨s0, s1, s2⟩
        go_simp
        with_reducible rfl
       rotate_left
       ·simp only [Act.put, zsI, zs0, zs1, i64_w, i32_w]
        rfl
       refine take_ (i := 4) (N := some 30) (v := ?_) (a' := ?_) #[true, true, true, true, true, true, false, false, false, false, true, false, true, false, false, false, false, false] rfl rfl (take_ofW HT_.out HW_.out (by kernel_rfl)) (fun _ _ _ h => h) (Or.inl ⟨by rfl, ?_⟩) hHeld ?_ ?_
       rotate_left
       ·rintro w' ⟨s0, s1, s2⟩
        go_simp
        with_reducible rfl
       rotate_left
       ·simp only [Act.put, zsI, zs0, zs1, i64_w, i32_w]
        rfl
       refine take_ (i := 6) (N := some 32) (v := ?_) (a' := ?_) #[true, true, true, true, true, true, true, false, false, false, true, false, true, false, false, false, false, false] rfl rfl (take_ofW HT_.out HW_.out (by kernel_rfl)) (fun _ _ _ h => h) (Or.inl ⟨by rfl, ?_⟩) hHeld ?_ ?_
       rotate_left
       ·rintro w' ⟨s0, s1, s2⟩
        go_simp
        with_reducible rfl
       rotate_left
       ·simp only [Act.put, zsI, zs0, zs1, i64_w, i32_w]
        rfl
       refine pure_ (i := 7) (N := some 33) (v := ?_) (a' := ?_) #[true, true, true, true, true, true, true, true, false, false, true, false, true, false, false, false, false, false] rfl rfl (any_of HT_.out (by kernel_rfl)) (fun _ _ _ h => h) (Or.inl ⟨by rfl, ?_⟩) ?_ ?_
       rotate_left
       ·intro w'
        go_simp
        with_reducible rfl
       rotate_left
       ·simp only [Act.put, zsI, zs0, zs1, i64_w, i32_w]
        rfl
       refine pure_ (i := 8) (N := some 34) (v := ?_) (a' := ?_) #[true, true, true, true, true, true, true, true, true, false, true, false, true, false, false, false, false, false] rfl rfl (any_of HT_.out (by kernel_rfl)) (fun _ _ _ h => h) (Or.inl ⟨by rfl, ?_⟩) ?_ ?_
       rotate_left
       ·intro w'
        go_simp
        with_reducible rfl
       rotate_left
       ·simp only [Act.put, zsI, zs0, zs1, i64_w, i32_w]
        rfl
       refine pure_ (i := 9) (N := some 35) (v := ?_) (a' := ?_) #[true, true, true, true, true, true, true, true, true, true, true, false, true, false, false, false, false, false] rfl rfl (any_of HT_.out (by kernel_rfl)) (fun _ _ _ h => h) (Or.inl ⟨by rfl, ?_⟩) ?_ ?_
       rotate_left
       ·intro w'
        go_simp
        with_reducible rfl
       rotate_left
       ·simp only [Act.put, zsI, zs0, zs1, i64_w, i32_w]
        rfl
       refine take_ (i := 11) (N := some 37) (v := ?_) (a' := ?_) #[true, true, true, true, true, true, true, true, true, true, true, true, true, false, false, false, false, false] rfl rfl (take_ofW HT_.out HW_.out (by kernel_rfl)) (fun _ _ _ h => h) (Or.inl ⟨by rfl, ?_⟩) hHeld ?_ ?_
       rotate_left
       ·rintro w' ⟨s0, s1, s2⟩
        go_simp
        with_reducible rfl
       rotate_left
       ·simp only [Act.put, zsI, zs0, zs1, i64_w, i32_w]
        rfl
       refine take_ (i := 13) (N := some 39) (v := ?_) (a' := ?_) #[true, true, true, true, true, true, true, true, true, true, true, true, true, true, false, false, false, false] rfl rfl (take_ofW HT_.out HW_.out (by kernel_rfl)) (fun _ _ _ h => h) (Or.inl ⟨by rfl, ?_⟩) hHeld ?_ ?_
       rotate_left
       ·rintro w' ⟨s0, s1, s2⟩
        go_simp
        with_reducible rfl
       rotate_left
       ·simp only [Act.put, zsI, zs0, zs1, i64_w, i32_w]
        rfl
       refine pure_ (i := 14) (N := some 40) (v := ?_) (a' := ?_) #[true, true, true, true, true, true, true, true, true, true, true, true, true, true, true, false, false, false] rfl rfl (any_of HT_.out (by kernel_rfl)) (fun _ _ _ h => h) (Or.inl ⟨by rfl, ?_⟩) ?_ ?_
       rotate_left
       ·intro w'
        go_simp
        with_reducible rfl
       rotate_left
       ·simp only [Act.put, zsI, zs0, zs1, i64_w, i32_w]
        rfl
       refine pure_ (i := 15) (N := some 41) (v := ?_) (a' := ?_) #[true, true, true, true, true, true, true, true, true, true, true, true, true, true, true, true, false, false] rfl rfl (any_of HT_.out (by kernel_rfl)) (fun _ _ _ h => h) (Or.inl ⟨by rfl, ?_⟩) ?_ ?_
       rotate_left
       ·intro w'
        go_simp
        with_reducible rfl
       rotate_left
       ·simp only [Act.put, zsI, zs0, zs1, i64_w, i32_w]
        rfl
       refine pure_ (i := 16) (N := some 42) (v := ?_) (a' := ?_) #[true, true, true, true, true, true, true, true, true, true, true, true, true, true, true, true, true, false] rfl rfl (any_of HT_.out (by kernel_rfl)) (fun _ _ _ h => h) (Or.inl ⟨by rfl, ?_⟩) ?_ ?_
       rotate_left
       ·intro w'
        go_simp
        with_reducible rfl
       rotate_left
       ·simp only [Act.put, zsI, zs0, zs1, i64_w, i32_w]
        rfl
       refine one_ (i := 17) (N := none) #[true, true, true, true, true, true, true, true, true, true, true, true, true, true, true, true, true, true] rfl rfl (one_of HT_.out (by kernel_rfl)) (by decide) (fun K hK => ?_)
       have hs28 : w27.cell? ⟨gb160, 0, none⟩ = some (.string (⟨#[]⟩ : ByteArray)) := (bC BK160.out 0).trans rfl
       have hfs28 := bF BK160.out 0
       have hns28_1 := NB164_160.out
       have hms28_1 := NB160_164.out
       have hs29 : w27.cell? ⟨gb160, 1, none⟩ = some (.int .i64 0) := (bC BK160.out 1).trans rfl
       have hfs29 := bF BK160.out 1
       have hns29_1 := NB164_160.out
       have hms29_1 := NB160_164.out
       have hs30 : w27.cell? ⟨gb160, 2, none⟩ = some (.int .i64 0) := (bC BK160.out 2).trans rfl
       have hfs30 := bF BK160.out 2
       have hns30_1 := NB164_160.out
       have hms30_1 := NB160_164.out
       refine skip_ (w1 := ?_) (by rfl) rfl ?_ ?_
       rotate_left
       ·go_simp
        rfl
       refine hK.out _ _ ⟨((cell_far (p := ⟨gb160, _, none⟩) NB164_160.out _).trans (((cell_far (p := ⟨gb160, _, none⟩) NB164_160.out _).trans (((cell_far (p := ⟨gb160, _, none⟩) NB164_160.out _).trans (hHeld.1)))))), ((cell_far (p := ⟨gb160, _, none⟩) NB164_160.out _).trans (((cell_far (p := ⟨gb160, _, none⟩) NB164_160.out _).trans (((cell_far (p := ⟨gb160, _, none⟩) NB164_160.out _).trans (hHeld.2.1)))))), ((cell_far (p := ⟨gb160, _, none⟩) NB164_160.out _).trans (((cell_far (p := ⟨gb160, _, none⟩) NB164_160.out _).trans (((cell_far (p := ⟨gb160, _, none⟩) NB164_160.out _).trans (hHeld.2.2))))))⟩ (fun hHeld => ?_)
       clear hK K
       refine done_ (done_of HT_.out (by kernel_rfl)) ?_
       try go_wp2
       refine bodyPost_ret (results_cell_row rfl _ _ gb160 173 #[.string (a0.extract (t162 : Int).toNat ((wrap64 (t162 + (wrap64 (t161)))) : Int).toNat), .int .i64 (wrap64 (t162 + (wrap64 (t161)))), .int .i64 0] (0, 0) _ rfl (by (with_reducible repeat first | apply bN | apply bD | apply bA); refine bP (cs := #[.string (a0.extract (t162 : Int).toNat ((wrap64 (t162 + (wrap64 (t161)))) : Int).toNat), .int .i64 (wrap64 (t162 + (wrap64 (t161)))), .int .i64 0]) ?_ 2 _ rfl; (with_reducible repeat first | apply bN | apply bD | apply bA); refine bP (cs := #[.string (a0.extract (t162 : Int).toNat ((wrap64 (t162 + (wrap64 (t161)))) : Int).toNat), .int .i64 0, .int .i64 0]) ?_ 1 _ rfl; (with_reducible repeat first | apply bN | apply bD | apply bA); refine bP (cs := #[.string (⟨#[]⟩ : ByteArray), .int .i64 0, .int .i64 0]) ?_ 0 _ rfl; (with_reducible repeat first | apply bN | apply bD | apply bA); exact BK160.out) Try.underlying173 rfl (by kernel_rfl)) rfl ?_
       exact ⟨by first | rfl | (simp [errW_none, errW_some] <;> rfl) | (simp [*, errW_none, errW_some] <;> rfl), by repeat (first | (with_reducible first | exact HB.out | apply lA | apply lN | apply lD | refine lS ?_ GE160.out | refine lS ?_ GE164.out) | exact HB.out)⟩
      ·rw [if_neg c20] at H
       exact absurd H (by simp)
     ·rw [if_neg c19] at H
      exact absurd H (by simp)
    ·rw [if_neg c18] at H
     exact absurd H (by simp)
 ·rw [if_neg c3] at H
  have c3b0 : (t163 == 0) = false := beq_eq_false_iff_ne.mpr c3
  have c3b1 : (t163 != 0) = true := bne_iff_ne.mpr c3
  simp only [Option.some.injEq, Prod.mk.injEq] at H
  obtain ⟨rfl, rfl, rfl⟩ := H
  go_enter Try.func104, Try.ntmps104
  go_wp2_with (first | ((with_reducible refine gate_dst (N := 2) rfl ?_); refine box_event ?hg (N := 2) ?hd (cs := #[.string (⟨#[]⟩ : ByteArray), .int .i64 0, .int .i64 0]) (t := 173) ?hr ?_; (case hd => rfl); (case hg => rfl); (case hr => first | (go_simp; done) | (go_simp; rfl)); intro gb160 hg w31 hbox hb; have n0_ := mkA (zbS (by repeat (first | (with_reducible first | exact HB.out | apply lA | apply lN | apply lD) | exact HB.out)) hb); have n1_ := mkA (hbox); have n2_ := mkA ((by rw [hg]; exact (below_size (by repeat (first | (with_reducible first | exact HB.out | apply lA | apply lN | apply lD) | exact HB.out))) : w.heap.size ≤ gb160)); have n3_ := mkA ((by rw [hg]; exact (below_size (by repeat (first | (with_reducible first | exact HB.out | apply lA | apply lN | apply lD) | exact HB.out))) : w.heap.size ≤ gb160)); clear HB; have HB := n0_; have BK160 := n1_; have GW160 := n2_; have GE160 := n3_; clear n0_ n1_ n2_ n3_; clear hb hbox hg) | ((with_reducible refine gate_callee (f := 140) rfl ?_); refine goesL_ (some 5) rfl rfl Try.func140 (by kernel_rfl) rfl #[.string a0] rfl (by (try simp only [List.map_toArray, List.map_cons, List.map_nil]); first | done | rfl | (simp only [List.length_drop, List.length_take]; rfl)) ?_; (with_reducible refine (weighlockref01_Unchain.calls k a0 t161 t162 t163 _ A2.out).mono ?_); rintro e w32 ⟨rfl, hb⟩; refine ⟨_, rfl, ?_⟩; have n0_ := mkA (bB (g := gb160) (o := .cells #[.string (⟨#[]⟩ : ByteArray), .int .i64 0, .int .i64 0] 173 (0, 0)) (by (with_reducible repeat first | apply bN | apply bD | apply bA); exact BK160.out) hb); have n1_ := mkA (zbS (by repeat (first | (with_reducible first | exact HB.out | apply lA | apply lN | apply lD | refine lS ?_ GE160.out) | exact HB.out)) hb); clear BK160; clear HB; have BK160 := n0_; have HB := n1_; clear n0_ n1_; (try clear hb); (try clear hb2); (try clear hk); (try clear hi)) | ((with_reducible refine gate_dst (N := 3) rfl ?_); refine box_event ?hg (N := 3) ?hd (cs := #[.int .u64 0, .int .i64 0, .int .i64 0]) (t := 216) ?hr ?_; (case hd => rfl); (case hg => rfl); (case hr => first | (go_simp; done) | (go_simp; rfl)); intro gb164 hg w33 hbox hb; have n0_ := mkA (bB (g := gb160) (o := .cells #[.string (⟨#[]⟩ : ByteArray), .int .i64 0, .int .i64 0] 173 (0, 0)) (by (with_reducible repeat first | apply bN | apply bD | apply bA); exact BK160.out) hb); have n1_ := mkA (zbS (by repeat (first | (with_reducible first | exact HB.out | apply lA | apply lN | apply lD | refine lS ?_ GE160.out) | exact HB.out)) hb); have n2_ := mkA (hbox); have n3_ := mkA ((by rw [hg]; exact (below_size (by repeat (first | (with_reducible first | exact HB.out | apply lA | apply lN | apply lD | refine lS ?_ GE160.out) | exact HB.out))) : w.heap.size ≤ gb164)); have n4_ := mkA ((by rw [hg]; exact (below_size (by repeat (first | (with_reducible first | exact HB.out | apply lA | apply lN | apply lD | refine lS ?_ GE160.out) | exact HB.out))) : w.heap.size ≤ gb164)); have n5_ := mkA ((by rw [hg]; exact Nat.ne_of_lt (blk_lt (g := gb160) (o := .cells #[.string (⟨#[]⟩ : ByteArray), .int .i64 0, .int .i64 0] 173 (0, 0)) (by (with_reducible repeat first | apply bN | apply bD | apply bA); exact BK160.out)) : gb160 ≠ gb164)); have n6_ := mkA ((by rw [hg]; exact Nat.ne_of_gt (blk_lt (g := gb160) (o := .cells #[.string (⟨#[]⟩ : ByteArray), .int .i64 0, .int .i64 0] 173 (0, 0)) (by (with_reducible repeat first | apply bN | apply bD | apply bA); exact BK160.out)) : gb164 ≠ gb160)); clear BK160; clear HB; have BK160 := n0_; have HB := n1_; have BK164 := n2_; have GW164 := n3_; have GE164 := n4_; have NB160_164 := n5_; have NB164_160 := n6_; clear n0_ n1_ n2_ n3_ n4_ n5_ n6_; clear hb hbox hg; have hnb34 := NB164_160.out; have hnc34 := NB160_164.out; have hcz35_0 : w33.cell? ⟨gb164, 0, none⟩ = some (.int .u64 0) := (bC BK164.out 0).trans rfl; have hcz35_1 : w33.cell? ⟨gb164, 1, none⟩ = some (.int .i64 0) := (bC BK164.out 1).trans rfl; have hcz35_2 : w33.cell? ⟨gb164, 2, none⟩ = some (.int .i64 0) := (bC BK164.out 2).trans rfl; have hfz35_0 := bF BK164.out 0; have hfz35_1 := bF BK164.out 1; have hfz35_2 := bF BK164.out 2; have hcz36_0 : w33.cell? ⟨gb160, 0, none⟩ = some (.string (⟨#[]⟩ : ByteArray)) := (bC BK160.out 0).trans rfl; have hcz36_1 : w33.cell? ⟨gb160, 1, none⟩ = some (.int .i64 0) := (bC BK160.out 1).trans rfl; have hcz36_2 : w33.cell? ⟨gb160, 2, none⟩ = some (.int .i64 0) := (bC BK160.out 2).trans rfl; have hfz36_0 := bF BK160.out 0; have hfz36_1 := bF BK160.out 1; have hfz36_2 := bF BK160.out 2))
  refine bodyPost_ret (results_cell_row rfl _ _ gb160 173 #[.string (⟨#[]⟩ : ByteArray), .int .i64 0, .int .i64 t163] (0, 0) _ rfl (by (with_reducible repeat first | apply bN | apply bD | apply bA); refine bP (cs := #[.string (⟨#[]⟩ : ByteArray), .int .i64 0, .int .i64 0]) ?_ 2 _ rfl; (with_reducible repeat first | apply bN | apply bD | apply bA); refine bP (cs := #[.string (⟨#[]⟩ : ByteArray), .int .i64 0, .int .i64 0]) ?_ 1 _ rfl; (with_reducible repeat first | apply bN | apply bD | apply bA); refine bP (cs := #[.string (⟨#[]⟩ : ByteArray), .int .i64 0, .int .i64 0]) ?_ 0 _ rfl; (with_reducible repeat first | apply bN | apply bD | apply bA); refine bR ?_ NB160_164.out _; (with_reducible repeat first | apply bN | apply bD | apply bA); refine bR ?_ NB160_164.out _; (with_reducible repeat first | apply bN | apply bD | apply bA); refine bR ?_ NB160_164.out _; (with_reducible repeat first | apply bN | apply bD | apply bA); exact BK160.out) Try.underlying173 rfl (by kernel_rfl)) rfl ?_
  exact ⟨by first | rfl | (simp [errW_none, errW_some] <;> rfl) | (simp [*, errW_none, errW_some] <;> rfl), by repeat (first | (with_reducible first | exact HB.out | apply lA | apply lN | apply lD | refine lS ?_ GE160.out | refine lS ?_ GE164.out) | exact HB.out)⟩
def weighlockref24_before.f (a0_0 : ByteArray) (a0_1 : ByteArray) (a0_2 : Int) (a0_3 : Int) (a1_0 : ByteArray) (a1_1 : ByteArray) (a1_2 : Int) (a1_3 : Int) : Option (Bool) := if a0_0.toList = a1_0.toList then (if a0_1.toList = a1_1.toList then (some (decide (a0_2 < a1_2))) else (some (Op.bytesLess a0_1.toList a1_1.toList))) else (some (Op.bytesLess a0_0.toList a1_0.toList))
set_option maxHeartbeats 8000000 in
set_option maxRecDepth 100000 in
theorem weighlockref24_before.calls (a0_0 : ByteArray) (a0_1 : ByteArray) (a0_2 : Int) (a0_3 : Int) (a1_0 : ByteArray) (a1_1 : ByteArray) (a1_2 : Int) (a1_3 : Int) (r : Bool) (w : World) (h : weighlockref24_before.f a0_0 a0_1 a0_2 a0_3 a1_0 a1_1 a1_2 a1_3 = some r) :
  Calls Try.prog 155 #[.agg #[.string a0_0, .string a0_1, .int .i64 a0_2, .int .i64 a0_3], .agg #[.string a1_0, .string a1_1, .int .i64 a1_2, .int .i64 a1_3]] w fun e w' => e = .returned (.bool r) ∧ Below w.heap.size w w' := by
 have hu166 := Try.underlying166
 have HB := mkA (Below.refl w.heap.size w)
 have H : (if a0_0.toList = a1_0.toList then (if a0_1.toList = a1_1.toList then (some (decide (a0_2 < a1_2))) else (some (Op.bytesLess a0_1.toList a1_1.toList))) else (some (Op.bytesLess a0_0.toList a1_0.toList))) = some r := h
 clear h
 by_cases c3 : a0_0.toList = a1_0.toList
 ·rw [if_pos c3] at H
  have c3b0 : (a0_0.toList == a1_0.toList) = true := beq_iff_eq.mpr c3
  have c3b1 : (a0_0.toList != a1_0.toList) = false := bne_eq_false_iff_eq.mpr c3
  clear c3
  by_cases c4 : a0_1.toList = a1_1.toList
  ·rw [if_pos c4] at H
   have c4b0 : (a0_1.toList == a1_1.toList) = true := beq_iff_eq.mpr c4
   have c4b1 : (a0_1.toList != a1_1.toList) = false := bne_eq_false_iff_eq.mpr c4
   clear c4
   obtain rfl := Option.some.inj H
   go_enter Try.func155, Try.ntmps155
   go_wp2_with (first | ((with_reducible refine gate_dst (N := 2) rfl ?_); refine box_event ?hg (N := 2) ?hd (cs := #[.string a0_0, .string a0_1, .int .i64 a0_2, .int .i64 a0_3]) (t := 166) ?hr ?_; (case hd => rfl); (case hg => rfl); (case hr => first | (go_simp; done) | (go_simp; rfl)); intro gb165 hg w5 hbox hb; have n0_ := mkA (zbS (by repeat (first | (with_reducible first | exact HB.out | apply lA | apply lN | apply lD) | exact HB.out)) hb); have n1_ := mkA (hbox); have n2_ := mkA ((by rw [hg]; exact (below_size (by repeat (first | (with_reducible first | exact HB.out | apply lA | apply lN | apply lD) | exact HB.out))) : w.heap.size ≤ gb165)); have n3_ := mkA ((by rw [hg]; exact (below_size (by repeat (first | (with_reducible first | exact HB.out | apply lA | apply lN | apply lD) | exact HB.out))) : w.heap.size ≤ gb165)); clear HB; have HB := n0_; have BK165 := n1_; have GW165 := n2_; have GE165 := n3_; clear n0_ n1_ n2_ n3_; clear hb hbox hg) | ((with_reducible refine gate_dst (N := 3) rfl ?_); refine box_event ?hg (N := 3) ?hd (cs := #[.string a1_0, .string a1_1, .int .i64 a1_2, .int .i64 a1_3]) (t := 166) ?hr ?_; (case hd => rfl); (case hg => rfl); (case hr => first | (go_simp; done) | (go_simp; rfl)); intro gb166 hg w6 hbox hb; have n0_ := mkA (bB (g := gb165) (o := .cells #[.string a0_0, .string a0_1, .int .i64 a0_2, .int .i64 a0_3] 166 (0, 0)) (by (with_reducible repeat first | apply bN | apply bD | apply bA); exact BK165.out) hb); have n1_ := mkA (zbS (by repeat (first | (with_reducible first | exact HB.out | apply lA | apply lN | apply lD | refine lS ?_ GE165.out) | exact HB.out)) hb); have n2_ := mkA (hbox); have n3_ := mkA ((by rw [hg]; exact (below_size (by repeat (first | (with_reducible first | exact HB.out | apply lA | apply lN | apply lD | refine lS ?_ GE165.out) | exact HB.out))) : w.heap.size ≤ gb166)); have n4_ := mkA ((by rw [hg]; exact (below_size (by repeat (first | (with_reducible first | exact HB.out | apply lA | apply lN | apply lD | refine lS ?_ GE165.out) | exact HB.out))) : w.heap.size ≤ gb166)); have n5_ := mkA ((by rw [hg]; exact Nat.ne_of_lt (blk_lt (g := gb165) (o := .cells #[.string a0_0, .string a0_1, .int .i64 a0_2, .int .i64 a0_3] 166 (0, 0)) (by (with_reducible repeat first | apply bN | apply bD | apply bA); exact BK165.out)) : gb165 ≠ gb166)); have n6_ := mkA ((by rw [hg]; exact Nat.ne_of_gt (blk_lt (g := gb165) (o := .cells #[.string a0_0, .string a0_1, .int .i64 a0_2, .int .i64 a0_3] 166 (0, 0)) (by (with_reducible repeat first | apply bN | apply bD | apply bA); exact BK165.out)) : gb166 ≠ gb165)); clear BK165; clear HB; have BK165 := n0_; have HB := n1_; have BK166 := n2_; have GW166 := n3_; have GE166 := n4_; have NB165_166 := n5_; have NB166_165 := n6_; clear n0_ n1_ n2_ n3_ n4_ n5_ n6_; clear hb hbox hg; have hnb7 := NB165_166.out; have hnc7 := NB166_165.out; have hcz8_0 : w6.cell? ⟨gb165, 0, none⟩ = some (.string a0_0) := (bC BK165.out 0).trans rfl; have hcz8_1 : w6.cell? ⟨gb165, 1, none⟩ = some (.string a0_1) := (bC BK165.out 1).trans rfl; have hcz8_2 : w6.cell? ⟨gb165, 2, none⟩ = some (.int .i64 a0_2) := (bC BK165.out 2).trans rfl; have hcz8_3 : w6.cell? ⟨gb165, 3, none⟩ = some (.int .i64 a0_3) := (bC BK165.out 3).trans rfl; have hfz8_0 := bF BK165.out 0; have hfz8_1 := bF BK165.out 1; have hfz8_2 := bF BK165.out 2; have hfz8_3 := bF BK165.out 3; have hcz9_0 : w6.cell? ⟨gb166, 0, none⟩ = some (.string a1_0) := (bC BK166.out 0).trans rfl; have hcz9_1 : w6.cell? ⟨gb166, 1, none⟩ = some (.string a1_1) := (bC BK166.out 1).trans rfl; have hcz9_2 : w6.cell? ⟨gb166, 2, none⟩ = some (.int .i64 a1_2) := (bC BK166.out 2).trans rfl; have hcz9_3 : w6.cell? ⟨gb166, 3, none⟩ = some (.int .i64 a1_3) := (bC BK166.out 3).trans rfl; have hfz9_0 := bF BK166.out 0; have hfz9_1 := bF BK166.out 1; have hfz9_2 := bF BK166.out 2; have hfz9_3 := bF BK166.out 3))
   go_ret
   exact ⟨by first | rfl | (simp [errW_none, errW_some] <;> rfl) | (simp [*, errW_none, errW_some] <;> rfl), by repeat (first | (with_reducible first | exact HB.out | apply lA | apply lN | apply lD | refine lS ?_ GE165.out | refine lS ?_ GE166.out) | exact HB.out)⟩
  ·rw [if_neg c4] at H
   have c4b0 : (a0_1.toList == a1_1.toList) = false := beq_eq_false_iff_ne.mpr c4
   have c4b1 : (a0_1.toList != a1_1.toList) = true := bne_iff_ne.mpr c4
   obtain rfl := Option.some.inj H
   go_enter Try.func155, Try.ntmps155
   go_wp2_with (first | ((with_reducible refine gate_dst (N := 2) rfl ?_); refine box_event ?hg (N := 2) ?hd (cs := #[.string a0_0, .string a0_1, .int .i64 a0_2, .int .i64 a0_3]) (t := 166) ?hr ?_; (case hd => rfl); (case hg => rfl); (case hr => first | (go_simp; done) | (go_simp; rfl)); intro gb165 hg w10 hbox hb; have n0_ := mkA (zbS (by repeat (first | (with_reducible first | exact HB.out | apply lA | apply lN | apply lD) | exact HB.out)) hb); have n1_ := mkA (hbox); have n2_ := mkA ((by rw [hg]; exact (below_size (by repeat (first | (with_reducible first | exact HB.out | apply lA | apply lN | apply lD) | exact HB.out))) : w.heap.size ≤ gb165)); have n3_ := mkA ((by rw [hg]; exact (below_size (by repeat (first | (with_reducible first | exact HB.out | apply lA | apply lN | apply lD) | exact HB.out))) : w.heap.size ≤ gb165)); clear HB; have HB := n0_; have BK165 := n1_; have GW165 := n2_; have GE165 := n3_; clear n0_ n1_ n2_ n3_; clear hb hbox hg) | ((with_reducible refine gate_dst (N := 3) rfl ?_); refine box_event ?hg (N := 3) ?hd (cs := #[.string a1_0, .string a1_1, .int .i64 a1_2, .int .i64 a1_3]) (t := 166) ?hr ?_; (case hd => rfl); (case hg => rfl); (case hr => first | (go_simp; done) | (go_simp; rfl)); intro gb166 hg w11 hbox hb; have n0_ := mkA (bB (g := gb165) (o := .cells #[.string a0_0, .string a0_1, .int .i64 a0_2, .int .i64 a0_3] 166 (0, 0)) (by (with_reducible repeat first | apply bN | apply bD | apply bA); exact BK165.out) hb); have n1_ := mkA (zbS (by repeat (first | (with_reducible first | exact HB.out | apply lA | apply lN | apply lD | refine lS ?_ GE165.out) | exact HB.out)) hb); have n2_ := mkA (hbox); have n3_ := mkA ((by rw [hg]; exact (below_size (by repeat (first | (with_reducible first | exact HB.out | apply lA | apply lN | apply lD | refine lS ?_ GE165.out) | exact HB.out))) : w.heap.size ≤ gb166)); have n4_ := mkA ((by rw [hg]; exact (below_size (by repeat (first | (with_reducible first | exact HB.out | apply lA | apply lN | apply lD | refine lS ?_ GE165.out) | exact HB.out))) : w.heap.size ≤ gb166)); have n5_ := mkA ((by rw [hg]; exact Nat.ne_of_lt (blk_lt (g := gb165) (o := .cells #[.string a0_0, .string a0_1, .int .i64 a0_2, .int .i64 a0_3] 166 (0, 0)) (by (with_reducible repeat first | apply bN | apply bD | apply bA); exact BK165.out)) : gb165 ≠ gb166)); have n6_ := mkA ((by rw [hg]; exact Nat.ne_of_gt (blk_lt (g := gb165) (o := .cells #[.string a0_0, .string a0_1, .int .i64 a0_2, .int .i64 a0_3] 166 (0, 0)) (by (with_reducible repeat first | apply bN | apply bD | apply bA); exact BK165.out)) : gb166 ≠ gb165)); clear BK165; clear HB; have BK165 := n0_; have HB := n1_; have BK166 := n2_; have GW166 := n3_; have GE166 := n4_; have NB165_166 := n5_; have NB166_165 := n6_; clear n0_ n1_ n2_ n3_ n4_ n5_ n6_; clear hb hbox hg; have hnb12 := NB165_166.out; have hnc12 := NB166_165.out; have hcz13_0 : w11.cell? ⟨gb165, 0, none⟩ = some (.string a0_0) := (bC BK165.out 0).trans rfl; have hcz13_1 : w11.cell? ⟨gb165, 1, none⟩ = some (.string a0_1) := (bC BK165.out 1).trans rfl; have hcz13_2 : w11.cell? ⟨gb165, 2, none⟩ = some (.int .i64 a0_2) := (bC BK165.out 2).trans rfl; have hcz13_3 : w11.cell? ⟨gb165, 3, none⟩ = some (.int .i64 a0_3) := (bC BK165.out 3).trans rfl; have hfz13_0 := bF BK165.out 0; have hfz13_1 := bF BK165.out 1; have hfz13_2 := bF BK165.out 2; have hfz13_3 := bF BK165.out 3; have hcz14_0 : w11.cell? ⟨gb166, 0, none⟩ = some (.string a1_0) := (bC BK166.out 0).trans rfl; have hcz14_1 : w11.cell? ⟨gb166, 1, none⟩ = some (.string a1_1) := (bC BK166.out 1).trans rfl; have hcz14_2 : w11.cell? ⟨gb166, 2, none⟩ = some (.int .i64 a1_2) := (bC BK166.out 2).trans rfl; have hcz14_3 : w11.cell? ⟨gb166, 3, none⟩ = some (.int .i64 a1_3) := (bC BK166.out 3).trans rfl; have hfz14_0 := bF BK166.out 0; have hfz14_1 := bF BK166.out 1; have hfz14_2 := bF BK166.out 2; have hfz14_3 := bF BK166.out 3))
   go_ret
   exact ⟨by first | rfl | (simp [errW_none, errW_some] <;> rfl) | (simp [*, errW_none, errW_some] <;> rfl), by repeat (first | (with_reducible first | exact HB.out | apply lA | apply lN | apply lD | refine lS ?_ GE165.out | refine lS ?_ GE166.out) | exact HB.out)⟩
 ·rw [if_neg c3] at H
  have c3b0 : (a0_0.toList == a1_0.toList) = false := beq_eq_false_iff_ne.mpr c3
  have c3b1 : (a0_0.toList != a1_0.toList) = true := bne_iff_ne.mpr c3
  obtain rfl := Option.some.inj H
  go_enter Try.func155, Try.ntmps155
  go_wp2_with (first | ((with_reducible refine gate_dst (N := 2) rfl ?_); refine box_event ?hg (N := 2) ?hd (cs := #[.string a0_0, .string a0_1, .int .i64 a0_2, .int .i64 a0_3]) (t := 166) ?hr ?_; (case hd => rfl); (case hg => rfl); (case hr => first | (go_simp; done) | (go_simp; rfl)); intro gb165 hg w15 hbox hb; have n0_ := mkA (zbS (by repeat (first | (with_reducible first | exact HB.out | apply lA | apply lN | apply lD) | exact HB.out)) hb); have n1_ := mkA (hbox); have n2_ := mkA ((by rw [hg]; exact (below_size (by repeat (first | (with_reducible first | exact HB.out | apply lA | apply lN | apply lD) | exact HB.out))) : w.heap.size ≤ gb165)); have n3_ := mkA ((by rw [hg]; exact (below_size (by repeat (first | (with_reducible first | exact HB.out | apply lA | apply lN | apply lD) | exact HB.out))) : w.heap.size ≤ gb165)); clear HB; have HB := n0_; have BK165 := n1_; have GW165 := n2_; have GE165 := n3_; clear n0_ n1_ n2_ n3_; clear hb hbox hg) | ((with_reducible refine gate_dst (N := 3) rfl ?_); refine box_event ?hg (N := 3) ?hd (cs := #[.string a1_0, .string a1_1, .int .i64 a1_2, .int .i64 a1_3]) (t := 166) ?hr ?_; (case hd => rfl); (case hg => rfl); (case hr => first | (go_simp; done) | (go_simp; rfl)); intro gb166 hg w16 hbox hb; have n0_ := mkA (bB (g := gb165) (o := .cells #[.string a0_0, .string a0_1, .int .i64 a0_2, .int .i64 a0_3] 166 (0, 0)) (by (with_reducible repeat first | apply bN | apply bD | apply bA); exact BK165.out) hb); have n1_ := mkA (zbS (by repeat (first | (with_reducible first | exact HB.out | apply lA | apply lN | apply lD | refine lS ?_ GE165.out) | exact HB.out)) hb); have n2_ := mkA (hbox); have n3_ := mkA ((by rw [hg]; exact (below_size (by repeat (first | (with_reducible first | exact HB.out | apply lA | apply lN | apply lD | refine lS ?_ GE165.out) | exact HB.out))) : w.heap.size ≤ gb166)); have n4_ := mkA ((by rw [hg]; exact (below_size (by repeat (first | (with_reducible first | exact HB.out | apply lA | apply lN | apply lD | refine lS ?_ GE165.out) | exact HB.out))) : w.heap.size ≤ gb166)); have n5_ := mkA ((by rw [hg]; exact Nat.ne_of_lt (blk_lt (g := gb165) (o := .cells #[.string a0_0, .string a0_1, .int .i64 a0_2, .int .i64 a0_3] 166 (0, 0)) (by (with_reducible repeat first | apply bN | apply bD | apply bA); exact BK165.out)) : gb165 ≠ gb166)); have n6_ := mkA ((by rw [hg]; exact Nat.ne_of_gt (blk_lt (g := gb165) (o := .cells #[.string a0_0, .string a0_1, .int .i64 a0_2, .int .i64 a0_3] 166 (0, 0)) (by (with_reducible repeat first | apply bN | apply bD | apply bA); exact BK165.out)) : gb166 ≠ gb165)); clear BK165; clear HB; have BK165 := n0_; have HB := n1_; have BK166 := n2_; have GW166 := n3_; have GE166 := n4_; have NB165_166 := n5_; have NB166_165 := n6_; clear n0_ n1_ n2_ n3_ n4_ n5_ n6_; clear hb hbox hg; have hnb17 := NB165_166.out; have hnc17 := NB166_165.out; have hcz18_0 : w16.cell? ⟨gb165, 0, none⟩ = some (.string a0_0) := (bC BK165.out 0).trans rfl; have hcz18_1 : w16.cell? ⟨gb165, 1, none⟩ = some (.string a0_1) := (bC BK165.out 1).trans rfl; have hcz18_2 : w16.cell? ⟨gb165, 2, none⟩ = some (.int .i64 a0_2) := (bC BK165.out 2).trans rfl; have hcz18_3 : w16.cell? ⟨gb165, 3, none⟩ = some (.int .i64 a0_3) := (bC BK165.out 3).trans rfl; have hfz18_0 := bF BK165.out 0; have hfz18_1 := bF BK165.out 1; have hfz18_2 := bF BK165.out 2; have hfz18_3 := bF BK165.out 3; have hcz19_0 : w16.cell? ⟨gb166, 0, none⟩ = some (.string a1_0) := (bC BK166.out 0).trans rfl; have hcz19_1 : w16.cell? ⟨gb166, 1, none⟩ = some (.string a1_1) := (bC BK166.out 1).trans rfl; have hcz19_2 : w16.cell? ⟨gb166, 2, none⟩ = some (.int .i64 a1_2) := (bC BK166.out 2).trans rfl; have hcz19_3 : w16.cell? ⟨gb166, 3, none⟩ = some (.int .i64 a1_3) := (bC BK166.out 3).trans rfl; have hfz19_0 := bF BK166.out 0; have hfz19_1 := bF BK166.out 1; have hfz19_2 := bF BK166.out 2; have hfz19_3 := bF BK166.out 3))
  go_ret
  exact ⟨by first | rfl | (simp [errW_none, errW_some] <;> rfl) | (simp [*, errW_none, errW_some] <;> rfl), by repeat (first | (with_reducible first | exact HB.out | apply lA | apply lN | apply lD | refine lS ?_ GE165.out | refine lS ?_ GE166.out) | exact HB.out)⟩
mutual
def weighlockref24_Put.l0 : Nat → List (S166) → Bool → List (S166) → Int → Int → ByteArray → ByteArray → Int → Int → Option ((List (S166)))
 | 0, _, _, _, _, _, _, _, _, _ => none
 | k + 1, x5, x6, x9, x10, x11, x168000, x168001, x168002, x168003 => if x11 < x10 then (if 0 ≤ x11 then (if x11 < (x9.length : Int) then (if x6 = true then (weighlockref24_Put.j1 k x5 x6 x9 x10 x11 false x168000 x168001 x168002 x168003 ((rd_T166 x9 x11).f0) ((rd_T166 x9 x11).f1.f0) ((rd_T166 x9 x11).f1.f1) ((rd_T166 x9 x11).f2)) else ((weighlockref24_before.f ((rd_T166 x9 x11).f0) ((rd_T166 x9 x11).f1.f0) ((rd_T166 x9 x11).f1.f1) ((rd_T166 x9 x11).f2) x168000 x168001 x168002 x168003).bind fun t173 => (weighlockref24_Put.j1 k x5 x6 x9 x10 x11 (!t173) x168000 x168001 x168002 x168003 ((rd_T166 x9 x11).f0) ((rd_T166 x9 x11).f1.f0) ((rd_T166 x9 x11).f1.f1) ((rd_T166 x9 x11).f2)))) else (none)) else (none)) else (if x6 = true then (some x5) else (if x5.length < 2932031007402 then (some (x5 ++ [(⟨x168000, (⟨x168001, x168002⟩ : S72), x168003⟩ : S166)])) else (none)))
def weighlockref24_Put.j1 : Nat → List (S166) → Bool → List (S166) → Int → Int → Bool → ByteArray → ByteArray → Int → Int → ByteArray → ByteArray → Int → Int → Option ((List (S166)))
 | 0, _, _, _, _, _, _, _, _, _, _, _, _, _, _ => none
 | k + 1, x5, x6, x9, x10, x11, x22, x168000, x168001, x168002, x168003, x173000, x173001, x173002, x173003 => if x22 = true then (if x5.length < 2932031007402 then ((some (x5 ++ [(⟨x168000, (⟨x168001, x168002⟩ : S72), x168003⟩ : S166)] : List (S166))).bind fun y174 => (if x173000.toList = x168000.toList then (if (!(x173001.toList == x168001.toList) || (!(x173002 == x168002))) = true then (if y174.length < 2932031007402 then (weighlockref24_Put.l0 k (y174 ++ [(⟨x173000, (⟨x173001, x173002⟩ : S72), x173003⟩ : S166)]) true x9 x10 (wrap64 (x11 + 1)) x168000 x168001 x168002 x168003) else (none)) else (weighlockref24_Put.l0 k y174 true x9 x10 (wrap64 (x11 + 1)) x168000 x168001 x168002 x168003)) else (if y174.length < 2932031007402 then (weighlockref24_Put.l0 k (y174 ++ [(⟨x173000, (⟨x173001, x173002⟩ : S72), x173003⟩ : S166)]) true x9 x10 (wrap64 (x11 + 1)) x168000 x168001 x168002 x168003) else (none)))) else (none)) else (if x173000.toList = x168000.toList then (if (!(x173001.toList == x168001.toList) || (!(x173002 == x168002))) = true then (if x5.length < 2932031007402 then (weighlockref24_Put.l0 k (x5 ++ [(⟨x173000, (⟨x173001, x173002⟩ : S72), x173003⟩ : S166)]) x6 x9 x10 (wrap64 (x11 + 1)) x168000 x168001 x168002 x168003) else (none)) else (weighlockref24_Put.l0 k x5 x6 x9 x10 (wrap64 (x11 + 1)) x168000 x168001 x168002 x168003)) else (if x5.length < 2932031007402 then (weighlockref24_Put.l0 k (x5 ++ [(⟨x173000, (⟨x173001, x173002⟩ : S72), x173003⟩ : S166)]) x6 x9 x10 (wrap64 (x11 + 1)) x168000 x168001 x168002 x168003) else (none)))
end
def weighlockref24_Put.f (k : Nat) (l0 : List (S166)) (a1_0 : ByteArray) (a1_1 : ByteArray) (a1_2 : Int) (a1_3 : Int) : Option ((List (S166))) := weighlockref24_Put.l0 k ([] : List (S166)) false l0 (l0.length : Int) 0 a1_0 a1_1 a1_2 a1_3
theorem weighlockref24_Put.mono_l : ∀ k, (∀ y0 y1 y2 y3 y4 y5 y6 y7 y8, LeO (weighlockref24_Put.l0 k y0 y1 y2 y3 y4 y5 y6 y7 y8) (weighlockref24_Put.l0 (k + 1) y0 y1 y2 y3 y4 y5 y6 y7 y8)) ∧ (∀ y0 y1 y2 y3 y4 y5 y6 y7 y8 y9 y10 y11 y12 y13, LeO (weighlockref24_Put.j1 k y0 y1 y2 y3 y4 y5 y6 y7 y8 y9 y10 y11 y12 y13) (weighlockref24_Put.j1 (k + 1) y0 y1 y2 y3 y4 y5 y6 y7 y8 y9 y10 y11 y12 y13))
 | 0 => ⟨fun _ _ _ _ _ _ _ _ _ r h => by simp [weighlockref24_Put.l0] at h, fun _ _ _ _ _ _ _ _ _ _ _ _ _ _ r h => by simp [weighlockref24_Put.j1] at h⟩
 | k + 1 => by
  obtain ⟨ih0, ih1⟩ := weighlockref24_Put.mono_l k
  refine ⟨?_, ?_⟩
  ·intro y0 y1 y2 y3 y4 y5 y6 y7 y8
   unfold weighlockref24_Put.l0
   repeat' first
   | (with_reducible exact ih0 _ _ _ _ _ _ _ _ _)
   | (with_reducible exact ih1 _ _ _ _ _ _ _ _ _ _ _ _ _ _)
   | (with_reducible exact LeO.refl _)
   | (with_reducible exact LeO.none _)
   | (with_reducible refine LeO.ite ?_ ?_)
   | (with_reducible refine LeO.bind ?_ (fun _ => ?_))
   | exact ih0 _ _ _ _ _ _ _ _ _
   | exact ih1 _ _ _ _ _ _ _ _ _ _ _ _ _ _
   | exact LeO.none _
   | refine LeO.ite ?_ ?_
   | refine LeO.bind ?_ (fun _ => ?_)
  ·intro y0 y1 y2 y3 y4 y5 y6 y7 y8 y9 y10 y11 y12 y13
   unfold weighlockref24_Put.j1
   repeat' first
   | (with_reducible exact ih0 _ _ _ _ _ _ _ _ _)
   | (with_reducible exact ih1 _ _ _ _ _ _ _ _ _ _ _ _ _ _)
   | (with_reducible exact LeO.refl _)
   | (with_reducible exact LeO.none _)
   | (with_reducible refine LeO.ite ?_ ?_)
   | (with_reducible refine LeO.bind ?_ (fun _ => ?_))
   | exact ih0 _ _ _ _ _ _ _ _ _
   | exact ih1 _ _ _ _ _ _ _ _ _ _ _ _ _ _
   | exact LeO.none _
   | refine LeO.ite ?_ ?_
   | refine LeO.bind ?_ (fun _ => ?_)
theorem weighlockref24_Put.mono : ∀ a0 a1 a2 a3 a4 k, LeO (weighlockref24_Put.f k a0 a1 a2 a3 a4) (weighlockref24_Put.f (k + 1) a0 a1 a2 a3 a4) := by
 intro a0 a1 a2 a3 a4 k
 obtain ⟨ih0, ih1⟩ := weighlockref24_Put.mono_l k
 unfold weighlockref24_Put.f
 repeat' first
   | (with_reducible exact ih0 _ _ _ _ _ _ _ _ _)
   | (with_reducible exact ih1 _ _ _ _ _ _ _ _ _ _ _ _ _ _)
   | (with_reducible exact LeO.refl _)
   | (with_reducible exact LeO.none _)
   | (with_reducible refine LeO.ite ?_ ?_)
   | (with_reducible refine LeO.bind ?_ (fun _ => ?_))
   | exact ih0 _ _ _ _ _ _ _ _ _
   | exact ih1 _ _ _ _ _ _ _ _ _ _ _ _ _ _
   | exact LeO.none _
   | refine LeO.ite ?_ ?_
   | refine LeO.bind ?_ (fun _ => ?_)
set_option maxHeartbeats 8000000 in
set_option maxRecDepth 100000 in
theorem weighlockref24_Put.calls (k : Nat) (A0 : Option Addr) (c0 : Nat) (l0 : List (S166)) (a1_0 : ByteArray) (a1_1 : ByteArray) (a1_2 : Int) (a1_3 : Int) (r : List (S166)) (w : World) (hr0 : Kd.C k166 w A0 l0.length l0) (hc0 : l0.length ≤ c0) (h : weighlockref24_Put.f k l0 a1_0 a1_1 a1_2 a1_3 = some r) :
  Calls Try.prog 141 #[.slice A0 l0.length c0, .agg #[.string a1_0, .string a1_1, .int .i64 a1_2, .int .i64 a1_3]] w fun e w' => ∃ v0_ : Value, e = .returned (v0_) ∧ Kd.R k166 166 w' w.heap.size (fun _ => True) v0_ r ∧ Below w.heap.size w w' := by
 have hu166 := Try.underlying166
 have hu72 := Try.underlying72
 have HR0 := mkA hr0
 have HC0 := mkA hc0
 clear hr0 hc0
 have HB := mkA (Below.refl w.heap.size w)
 have H : (weighlockref24_Put.l0 k ([] : List (S166)) false l0 (l0.length : Int) 0 a1_0 a1_1 a1_2 a1_3) = some r := h
 clear h
 have H' := mkA H
 clear H
 go_enter Try.func141, Try.ntmps141
 go_wp2_with (first | ((with_reducible refine gate_dst (N := 3) rfl ?_); refine box_event ?hg (N := 3) ?hd (cs := #[.string a1_0, .string a1_1, .int .i64 a1_2, .int .i64 a1_3]) (t := 166) ?hr ?_; (case hd => rfl); (case hg => rfl); (case hr => first | (go_simp; done) | (go_simp; rfl)); intro gb167 hg w3 hbox hb; have n0_ := mkA (zbS (by repeat (first | (with_reducible first | exact HB.out | apply lA | apply lN | apply lD) | exact HB.out)) hb); have n1_ := mkA (hbox); have n2_ := mkA ((by rw [hg]; exact (below_size (by repeat (first | (with_reducible first | exact HB.out | apply lA | apply lN | apply lD) | exact HB.out))) : w.heap.size ≤ gb167)); have n3_ := mkA ((by rw [hg]; exact (below_size (by repeat (first | (with_reducible first | exact HB.out | apply lA | apply lN | apply lD) | exact HB.out))) : w.heap.size ≤ gb167)); clear HB; have HB := n0_; have BK167 := n1_; have GW167 := n2_; have GE167 := n3_; clear n0_ n1_ n2_ n3_; clear hb hbox hg))
 go_loopg [5, 6, 11] k (fun kq v5 v6 v11 w' => ∃ (x5_1 : List (S166)) (x6_1 : Bool) (x11_1 : Int), v6 = .bool x6_1 ∧ v11 = .int .i64 x11_1 ∧ Aside0 (weighlockref24_Put.l0 kq x5_1 x6_1 l0 (l0.length : Int) x11_1 a1_0 a1_1 a1_2 a1_3 = some r) ∧ Aside0 (kq ≤ k) ∧ Aside0 (Kd.R k166 166 w' w.heap.size (fun k_ => k_ ≠ gb167) v5 x5_1) ∧ Aside0 (w'.heap[gb167]? = some (.cells #[.string a1_0, .string a1_1, .int .i64 a1_2, .int .i64 a1_3] 166 (0, 0))) ∧ Aside0 (Below w.heap.size w w'))
 case atStart => exact ⟨(([] : List (S166))), (false), (0), (by first | rfl | (simp; done) | (simp [*]; done)), (by first | rfl | (simp; done) | (simp [*]; done)), H', ⟨Nat.le_refl _⟩, ⟨by first | exact Kd.R_nil _ _ _ _ _ | exact Kd.N_nil _ _ _ _ _ | exact Kd.V_nil _ _ _ _ _ | exact Kd.Q_nil _ _ _ _ _ | exact Kd.S_nil _ _ _ _ _⟩, ⟨by (with_reducible repeat first | apply bN | apply bD | apply bA); exact BK167.out⟩, ⟨by repeat (first | (with_reducible first | exact HB.out | apply lA | apply lN | apply lD | refine lS ?_ GE167.out) | exact HB.out)⟩⟩
 case round =>
  clear H'
  try clear c1
  try clear p2
  obtain ⟨x5_1, x6_1, x11_1, rfl, rfl, HA, HK1, HO_5, BK167, HB⟩ := hrel
  cases gk with
  | zero => exact absurd HA.out (by simp [weighlockref24_Put.l0])
  | succ k1 =>
   have H := HA.out
   clear HA
   simp only [weighlockref24_Put.l0] at H
   by_cases c4 : x11_1 < (l0.length : Int)
   ·rw [if_pos c4] at H
    have c4b0 : decide (x11_1 < (l0.length : Int)) = true := decide_eq_true c4
    clear c4
    by_cases c5 : 0 ≤ x11_1
    ·rw [if_pos c5] at H
     have c5b0 : decide (0 ≤ x11_1) = true := decide_eq_true c5
     clear c5
     by_cases c6 : x11_1 < (l0.length : Int)
     ·rw [if_pos c6] at H
      have c6b0 : decide (x11_1 < (l0.length : Int)) = true := decide_eq_true c6
      clear c6
      have HC7 := mkA H
      clear H
      have p171 : 0 ≤ (x11_1 : Int) := of_decide_eq_true (by first | (with_reducible assumption) | assumption)
      have q171 : x11_1 < (l0.length : Int) := of_decide_eq_true (by first | (with_reducible assumption) | assumption)
      obtain ⟨ad171, e171, hx171_0, hx171_1, hx171_2, hx171_3⟩ := at_T166 HR0.out x11_1 p171 q171
      cases e171
      replace hx171_0 := (HB.out.cell (World.block_lt_of_cell? w _ hx171_0)).trans hx171_0
      replace hx171_1 := (HB.out.cell (World.block_lt_of_cell? w _ hx171_1)).trans hx171_1
      replace hx171_2 := (HB.out.cell (World.block_lt_of_cell? w _ hx171_2)).trans hx171_2
      replace hx171_3 := (HB.out.cell (World.block_lt_of_cell? w _ hx171_3)).trans hx171_3
      replace p171 := eq_true p171
      replace q171 := eq_true q171
      go_upto_region 6 with (first | ((with_reducible refine gate_dst (N := 8) rfl ?_); refine box_event ?hg (N := 8) ?hd (cs := #[.string (⟨#[]⟩ : ByteArray), .string (⟨#[]⟩ : ByteArray), .int .i64 0, .int .i64 0]) (t := 166) ?hr ?_; (case hd => rfl); (case hg => rfl); (case hr => first | (go_simp; done) | (go_simp; rfl)); intro gb172 hg w8 hbox hb; have n0_ := mkA (zrB (Kd.R_elderB (by (with_reducible repeat (first | apply zrA | apply zrN | apply zrD)); exact HO_5.out) gb172 (Nat.le_of_eq hg.symm)) hb); have n1_ := mkA (bB (g := gb167) (o := .cells #[.string a1_0, .string a1_1, .int .i64 a1_2, .int .i64 a1_3] 166 (0, 0)) (by (with_reducible repeat first | apply bN | apply bD | apply bA); exact BK167.out) hb); have n2_ := mkA (zbS (by repeat (first | (with_reducible first | exact HB.out | apply lA | apply lN | apply lD | refine lS ?_ GE167.out) | exact HB.out)) hb); have n3_ := mkA (hbox); have n4_ := mkA ((by rw [hg]; exact (below_size (by repeat (first | (with_reducible first | exact HB.out | apply lA | apply lN | apply lD | refine lS ?_ GE167.out) | exact HB.out))) : w.heap.size ≤ gb172)); have n5_ := mkA ((by rw [hg]; exact (below_size (by repeat (first | (with_reducible first | exact HB.out | apply lA | apply lN | apply lD | refine lS ?_ GE167.out) | exact HB.out))) : w.heap.size ≤ gb172)); have n6_ := mkA ((by rw [hg]; exact Nat.ne_of_lt (blk_lt (g := gb167) (o := .cells #[.string a1_0, .string a1_1, .int .i64 a1_2, .int .i64 a1_3] 166 (0, 0)) (by (with_reducible repeat first | apply bN | apply bD | apply bA); exact BK167.out)) : gb167 ≠ gb172)); have n7_ := mkA ((by rw [hg]; exact Nat.ne_of_gt (blk_lt (g := gb167) (o := .cells #[.string a1_0, .string a1_1, .int .i64 a1_2, .int .i64 a1_3] 166 (0, 0)) (by (with_reducible repeat first | apply bN | apply bD | apply bA); exact BK167.out)) : gb172 ≠ gb167)); clear HO_5; clear BK167; clear HB; have HO_5 := n0_; have BK167 := n1_; have HB := n2_; have BK172 := n3_; have GW172 := n4_; have GE172 := n5_; have NB167_172 := n6_; have NB172_167 := n7_; clear n0_ n1_ n2_ n3_ n4_ n5_ n6_ n7_; clear hb hbox hg; have hnb9 := NB172_167.out; have hnc9 := NB167_172.out; have hcz10_0 : w8.cell? ⟨gb172, 0, none⟩ = some (.string (⟨#[]⟩ : ByteArray)) := (bC BK172.out 0).trans rfl; have hcz10_1 : w8.cell? ⟨gb172, 1, none⟩ = some (.string (⟨#[]⟩ : ByteArray)) := (bC BK172.out 1).trans rfl; have hcz10_2 : w8.cell? ⟨gb172, 2, none⟩ = some (.int .i64 0) := (bC BK172.out 2).trans rfl; have hcz10_3 : w8.cell? ⟨gb172, 3, none⟩ = some (.int .i64 0) := (bC BK172.out 3).trans rfl; have hfz10_0 := bF BK172.out 0; have hfz10_1 := bF BK172.out 1; have hfz10_2 := bF BK172.out 2; have hfz10_3 := bF BK172.out 3))
      (try simp only [Act.put, zsI, zs0, zs1])
      go_cut [22] (fun v22 wc => ∃ (kq : Nat) (x22_6 : Bool), v22 = .bool x22_6 ∧ Aside0 (weighlockref24_Put.j1 kq x5_1 x6_1 l0 (l0.length : Int) x11_1 x22_6 a1_0 a1_1 a1_2 a1_3 ((rd_T166 l0 x11_1).f0) ((rd_T166 l0 x11_1).f1.f0) ((rd_T166 l0 x11_1).f1.f1) ((rd_T166 l0 x11_1).f2) = some r) ∧ Aside0 (kq ≤ k1) ∧ Aside0 (Kd.R k166 166 wc w.heap.size (fun k_ => k_ ≠ gb167 ∧ k_ ≠ gb172) u5 x5_1) ∧ Aside0 (wc.heap[gb167]? = some (.cells #[.string a1_0, .string a1_1, .int .i64 a1_2, .int .i64 a1_3] 166 (0, 0))) ∧ Aside0 (wc.heap[gb172]? = some (.cells #[.string ((rd_T166 l0 x11_1).f0), .string ((rd_T166 l0 x11_1).f1.f0), .int .i64 ((rd_T166 l0 x11_1).f1.f1), .int .i64 ((rd_T166 l0 x11_1).f2)] 166 (0, 0))) ∧ Aside0 (Below w.heap.size w wc))
      case first =>
       have H := HC7.out
       clear HC7
       by_cases c11 : x6_1 = true
       ·subst c11
        have H1 : (weighlockref24_Put.j1 k1 x5_1 true l0 (l0.length : Int) x11_1 false a1_0 a1_1 a1_2 a1_3 ((rd_T166 l0 x11_1).f0) ((rd_T166 l0 x11_1).f1.f0) ((rd_T166 l0 x11_1).f1.f1) ((rd_T166 l0 x11_1).f2)) = some r := by rw [if_pos rfl] at H; exact H
        clear H
        have H := H1
        clear H1
        have H' := mkA H
        clear H
        go_wp2
        go_meet
        case rel => exact ⟨_, (false), (by first | rfl | (simp; done) | (simp [*]; done)), H', ⟨by have := HK1.out; first | omega | exact Nat.le_refl _⟩, ⟨by (with_reducible repeat (first | apply zrA | apply zrN | apply zrD)); exact zrM (zrF (p := ⟨gb172, 3, none⟩) (zrF (p := ⟨gb172, 2, none⟩) (zrF (p := ⟨gb172, 1, none⟩) (zrF (p := ⟨gb172, 0, none⟩) (zrM HO_5.out (fun k_ hk => (⟨hk, hk.2⟩ : _ ∧ k_ ≠ gb172))) (fun _ hk => hk.2) (.string ((rd_T166 l0 x11_1).f0))) (fun _ hk => hk.2) (.string ((rd_T166 l0 x11_1).f1.f0))) (fun _ hk => hk.2) (.int .i64 ((rd_T166 l0 x11_1).f1.f1))) (fun _ hk => hk.2) (.int .i64 ((rd_T166 l0 x11_1).f2))) (fun _ hk => ⟨hk.1.1, hk.1.2⟩)⟩, ⟨by (with_reducible repeat first | apply bN | apply bD | apply bA); refine bR ?_ NB167_172.out _; (with_reducible repeat first | apply bN | apply bD | apply bA); refine bR ?_ NB167_172.out _; (with_reducible repeat first | apply bN | apply bD | apply bA); refine bR ?_ NB167_172.out _; (with_reducible repeat first | apply bN | apply bD | apply bA); refine bR ?_ NB167_172.out _; (with_reducible repeat first | apply bN | apply bD | apply bA); exact BK167.out⟩, ⟨by (with_reducible repeat first | apply bN | apply bD | apply bA); refine bP (cs := #[.string ((rd_T166 l0 x11_1).f0), .string ((rd_T166 l0 x11_1).f1.f0), .int .i64 ((rd_T166 l0 x11_1).f1.f1), .int .i64 0]) ?_ 3 _ rfl; (with_reducible repeat first | apply bN | apply bD | apply bA); refine bP (cs := #[.string ((rd_T166 l0 x11_1).f0), .string ((rd_T166 l0 x11_1).f1.f0), .int .i64 0, .int .i64 0]) ?_ 2 _ rfl; (with_reducible repeat first | apply bN | apply bD | apply bA); refine bP (cs := #[.string ((rd_T166 l0 x11_1).f0), .string (⟨#[]⟩ : ByteArray), .int .i64 0, .int .i64 0]) ?_ 1 _ rfl; (with_reducible repeat first | apply bN | apply bD | apply bA); refine bP (cs := #[.string (⟨#[]⟩ : ByteArray), .string (⟨#[]⟩ : ByteArray), .int .i64 0, .int .i64 0]) ?_ 0 _ rfl; (with_reducible repeat first | apply bN | apply bD | apply bA); exact BK172.out⟩, ⟨by repeat (first | (with_reducible first | exact HB.out | apply lA | apply lN | apply lD | refine lS ?_ GE167.out | refine lS ?_ GE172.out) | exact HB.out)⟩⟩
       ·replace c11 := Bool.eq_false_iff.mpr c11
        subst c11
        have H1 : ((weighlockref24_before.f ((rd_T166 l0 x11_1).f0) ((rd_T166 l0 x11_1).f1.f0) ((rd_T166 l0 x11_1).f1.f1) ((rd_T166 l0 x11_1).f2) a1_0 a1_1 a1_2 a1_3).bind fun t173 => (weighlockref24_Put.j1 k1 x5_1 false l0 (l0.length : Int) x11_1 (!t173) a1_0 a1_1 a1_2 a1_3 ((rd_T166 l0 x11_1).f0) ((rd_T166 l0 x11_1).f1.f0) ((rd_T166 l0 x11_1).f1.f1) ((rd_T166 l0 x11_1).f2))) = some r := by rw [if_neg (show ¬ (false = true) by decide)] at H; exact H
        clear H
        have H := H1
        clear H1
        replace H := Option.bind_eq_some_iff.mp H
        obtain ⟨t173, A120, H⟩ := H
        replace H : (weighlockref24_Put.j1 k1 x5_1 false l0 (l0.length : Int) x11_1 (!t173) a1_0 a1_1 a1_2 a1_3 ((rd_T166 l0 x11_1).f0) ((rd_T166 l0 x11_1).f1.f0) ((rd_T166 l0 x11_1).f1.f1) ((rd_T166 l0 x11_1).f2)) = some r := H
        have A12 := mkA A120
        clear A120
        have H' := mkA H
        clear H
        have hnb13 := NB172_167.out
        have hnc13 := NB167_172.out
        have hcz14_0 : w8.cell? ⟨gb172, 0, none⟩ = some (.string (⟨#[]⟩ : ByteArray)) := (bC BK172.out 0).trans rfl
        have hcz14_1 : w8.cell? ⟨gb172, 1, none⟩ = some (.string (⟨#[]⟩ : ByteArray)) := (bC BK172.out 1).trans rfl
        have hcz14_2 : w8.cell? ⟨gb172, 2, none⟩ = some (.int .i64 0) := (bC BK172.out 2).trans rfl
        have hcz14_3 : w8.cell? ⟨gb172, 3, none⟩ = some (.int .i64 0) := (bC BK172.out 3).trans rfl
        have hfz14_0 := bF BK172.out 0
        have hfz14_1 := bF BK172.out 1
        have hfz14_2 := bF BK172.out 2
        have hfz14_3 := bF BK172.out 3
        have hcz15_0 : w8.cell? ⟨gb167, 0, none⟩ = some (.string a1_0) := (bC BK167.out 0).trans rfl
        have hcz15_1 : w8.cell? ⟨gb167, 1, none⟩ = some (.string a1_1) := (bC BK167.out 1).trans rfl
        have hcz15_2 : w8.cell? ⟨gb167, 2, none⟩ = some (.int .i64 a1_2) := (bC BK167.out 2).trans rfl
        have hcz15_3 : w8.cell? ⟨gb167, 3, none⟩ = some (.int .i64 a1_3) := (bC BK167.out 3).trans rfl
        have hfz15_0 := bF BK167.out 0
        have hfz15_1 := bF BK167.out 1
        have hfz15_2 := bF BK167.out 2
        have hfz15_3 := bF BK167.out 3
        go_wp2_with (first | (go_at_call 155; (with_reducible refine (weighlockref24_before.calls ((rd_T166 l0 x11_1).f0) ((rd_T166 l0 x11_1).f1.f0) ((rd_T166 l0 x11_1).f1.f1) ((rd_T166 l0 x11_1).f2) a1_0 a1_1 a1_2 a1_3 t173 _ A12.out).mono ?_); rintro e w16 ⟨rfl, hb⟩; have n0_ := mkA (zrB (by (with_reducible repeat (first | apply zrA | apply zrN | apply zrD)); exact (zrM (zrF (p := ⟨gb172, 3, none⟩) (zrF (p := ⟨gb172, 2, none⟩) (zrF (p := ⟨gb172, 1, none⟩) (zrF (p := ⟨gb172, 0, none⟩) (zrM HO_5.out (fun k_ hk => (⟨hk, hk.2⟩ : _ ∧ k_ ≠ gb172))) (fun _ hk => hk.2) (.string ((rd_T166 l0 x11_1).f0))) (fun _ hk => hk.2) (.string ((rd_T166 l0 x11_1).f1.f0))) (fun _ hk => hk.2) (.int .i64 ((rd_T166 l0 x11_1).f1.f1))) (fun _ hk => hk.2) (.int .i64 ((rd_T166 l0 x11_1).f2))) (fun _ h_ => h_.1))) hb); have n1_ := mkA (bB (g := gb167) (o := .cells #[.string a1_0, .string a1_1, .int .i64 a1_2, .int .i64 a1_3] 166 (0, 0)) (by (with_reducible repeat first | apply bN | apply bD | apply bA); refine bR ?_ NB167_172.out _; (with_reducible repeat first | apply bN | apply bD | apply bA); refine bR ?_ NB167_172.out _; (with_reducible repeat first | apply bN | apply bD | apply bA); refine bR ?_ NB167_172.out _; (with_reducible repeat first | apply bN | apply bD | apply bA); refine bR ?_ NB167_172.out _; (with_reducible repeat first | apply bN | apply bD | apply bA); exact BK167.out) hb); have n2_ := mkA (bB (g := gb172) (o := .cells #[.string ((rd_T166 l0 x11_1).f0), .string ((rd_T166 l0 x11_1).f1.f0), .int .i64 ((rd_T166 l0 x11_1).f1.f1), .int .i64 ((rd_T166 l0 x11_1).f2)] 166 (0, 0)) (by (with_reducible repeat first | apply bN | apply bD | apply bA); refine bP (cs := #[.string ((rd_T166 l0 x11_1).f0), .string ((rd_T166 l0 x11_1).f1.f0), .int .i64 ((rd_T166 l0 x11_1).f1.f1), .int .i64 0]) ?_ 3 _ rfl; (with_reducible repeat first | apply bN | apply bD | apply bA); refine bP (cs := #[.string ((rd_T166 l0 x11_1).f0), .string ((rd_T166 l0 x11_1).f1.f0), .int .i64 0, .int .i64 0]) ?_ 2 _ rfl; (with_reducible repeat first | apply bN | apply bD | apply bA); refine bP (cs := #[.string ((rd_T166 l0 x11_1).f0), .string (⟨#[]⟩ : ByteArray), .int .i64 0, .int .i64 0]) ?_ 1 _ rfl; (with_reducible repeat first | apply bN | apply bD | apply bA); refine bP (cs := #[.string (⟨#[]⟩ : ByteArray), .string (⟨#[]⟩ : ByteArray), .int .i64 0, .int .i64 0]) ?_ 0 _ rfl; (with_reducible repeat first | apply bN | apply bD | apply bA); exact BK172.out) hb); have n3_ := mkA (zbS (by repeat (first | (with_reducible first | exact HB.out | apply lA | apply lN | apply lD | refine lS ?_ GE167.out | refine lS ?_ GE172.out) | exact HB.out)) hb); clear HO_5; clear BK167; clear BK172; clear HB; have HO_5 := n0_; have BK167 := n1_; have BK172 := n2_; have HB := n3_; clear n0_ n1_ n2_ n3_; (try clear hb); (try clear hb2); (try clear hk); (try clear hi)))
        go_meet
        case rel => exact ⟨_, (!t173), (by first | rfl | (simp; done) | (simp [*]; done)), H', ⟨by have := HK1.out; first | omega | exact Nat.le_refl _⟩, ⟨by (with_reducible repeat (first | apply zrA | apply zrN | apply zrD)); exact HO_5.out⟩, ⟨by (with_reducible repeat first | apply bN | apply bD | apply bA); exact BK167.out⟩, ⟨by (with_reducible repeat first | apply bN | apply bD | apply bA); exact BK172.out⟩, ⟨by repeat (first | (with_reducible first | exact HB.out | apply lA | apply lN | apply lD | refine lS ?_ GE167.out | refine lS ?_ GE172.out) | exact HB.out)⟩⟩
      case rest =>
       clear HC7
       try clear c1
       try clear p1
       try clear q1
       try clear hx1
       try clear p2
       try clear c4
       try clear c4b0
       try clear c5
       try clear c5b0
       try clear c6
       try clear c6b0
       try clear c9
       try clear c11
       try clear c13
       try clear c14
       try clear hcz10_0
       try clear hcz10_1
       try clear hcz10_2
       try clear hcz10_3
       try clear hcz14_0
       try clear hcz14_1
       try clear hcz14_2
       try clear hcz14_3
       try clear hcz15_0
       try clear hcz15_1
       try clear hcz15_2
       try clear hcz15_3
       try clear hfz10_0
       try clear hfz10_1
       try clear hfz10_2
       try clear hfz10_3
       try clear hfz14_0
       try clear hfz14_1
       try clear hfz14_2
       try clear hfz14_3
       try clear hfz15_0
       try clear hfz15_1
       try clear hfz15_2
       try clear hfz15_3
       try clear hx171_0
       try clear hx171_1
       try clear hx171_2
       try clear hx171_3
       try clear p171
       try clear p2
       try clear q171
       obtain ⟨kq, x22_6, rfl, HA, HJ6, HO_5, BK167, BK172, HB⟩ := hcut
       cases kq with
       | zero => exact absurd HA.out (by simp [weighlockref24_Put.j1])
       | succ kj6 =>
        have H := HA.out
        clear HA
        simp only [weighlockref24_Put.j1] at H
        by_cases c17 : x22_6 = true
        ·subst c17
         have H1 : (if x5_1.length < 2932031007402 then ((some (x5_1 ++ [(⟨a1_0, (⟨a1_1, a1_2⟩ : S72), a1_3⟩ : S166)] : List (S166))).bind fun y174 => (if ((rd_T166 l0 x11_1).f0).toList = a1_0.toList then (if (!(((rd_T166 l0 x11_1).f1.f0).toList == a1_1.toList) || (!(((rd_T166 l0 x11_1).f1.f1) == a1_2))) = true then (if y174.length < 2932031007402 then (weighlockref24_Put.l0 kj6 (y174 ++ [(⟨((rd_T166 l0 x11_1).f0), (⟨((rd_T166 l0 x11_1).f1.f0), ((rd_T166 l0 x11_1).f1.f1)⟩ : S72), ((rd_T166 l0 x11_1).f2)⟩ : S166)]) true l0 (l0.length : Int) (wrap64 (x11_1 + 1)) a1_0 a1_1 a1_2 a1_3) else (none)) else (weighlockref24_Put.l0 kj6 y174 true l0 (l0.length : Int) (wrap64 (x11_1 + 1)) a1_0 a1_1 a1_2 a1_3)) else (if y174.length < 2932031007402 then (weighlockref24_Put.l0 kj6 (y174 ++ [(⟨((rd_T166 l0 x11_1).f0), (⟨((rd_T166 l0 x11_1).f1.f0), ((rd_T166 l0 x11_1).f1.f1)⟩ : S72), ((rd_T166 l0 x11_1).f2)⟩ : S166)]) true l0 (l0.length : Int) (wrap64 (x11_1 + 1)) a1_0 a1_1 a1_2 a1_3) else (none)))) else (none)) = some r := by rw [if_pos rfl] at H; exact H
         clear H
         have H := H1
         clear H1
         by_cases c18 : x5_1.length < 2932031007402
         ·rw [if_pos c18] at H
          have LMc18 := mkA c18
          clear c18
          obtain ⟨y174, hy174⟩ : ∃ y_ : List (S166), y_ = (x5_1 ++ [(⟨a1_0, (⟨a1_1, a1_2⟩ : S72), a1_3⟩ : S166)]) := ⟨_, rfl⟩
          replace H : (if ((rd_T166 l0 x11_1).f0).toList = a1_0.toList then (if (!(((rd_T166 l0 x11_1).f1.f0).toList == a1_1.toList) || (!(((rd_T166 l0 x11_1).f1.f1) == a1_2))) = true then (if y174.length < 2932031007402 then (weighlockref24_Put.l0 kj6 (y174 ++ [(⟨((rd_T166 l0 x11_1).f0), (⟨((rd_T166 l0 x11_1).f1.f0), ((rd_T166 l0 x11_1).f1.f1)⟩ : S72), ((rd_T166 l0 x11_1).f2)⟩ : S166)]) true l0 (l0.length : Int) (wrap64 (x11_1 + 1)) a1_0 a1_1 a1_2 a1_3) else (none)) else (weighlockref24_Put.l0 kj6 y174 true l0 (l0.length : Int) (wrap64 (x11_1 + 1)) a1_0 a1_1 a1_2 a1_3)) else (if y174.length < 2932031007402 then (weighlockref24_Put.l0 kj6 (y174 ++ [(⟨((rd_T166 l0 x11_1).f0), (⟨((rd_T166 l0 x11_1).f1.f0), ((rd_T166 l0 x11_1).f1.f1)⟩ : S72), ((rd_T166 l0 x11_1).f2)⟩ : S166)]) true l0 (l0.length : Int) (wrap64 (x11_1 + 1)) a1_0 a1_1 a1_2 a1_3) else (none))) = some r := by first | (rw [hy174]; with_reducible exact H) | (have H2_ := (Option.bind_some _ _).symm.trans H; rw [hy174]; with_reducible exact H2_) | (have H2_ := (Option.bind_some _ _).symm.trans H; with_reducible exact H2_) | with_reducible exact H | (rw [hy174]; exact H) | exact H
          have Ny174 := mkA hy174
          clear hy174
          by_cases c19 : ((rd_T166 l0 x11_1).f0).toList = a1_0.toList
          ·rw [if_pos c19] at H
           have c19b0 : (((rd_T166 l0 x11_1).f0).toList == a1_0.toList) = true := beq_iff_eq.mpr c19
           have c19b1 : (((rd_T166 l0 x11_1).f0).toList != a1_0.toList) = false := bne_eq_false_iff_eq.mpr c19
           clear c19
           by_cases c20 : (!(((rd_T166 l0 x11_1).f1.f0).toList == a1_1.toList) || (!(((rd_T166 l0 x11_1).f1.f1) == a1_2))) = true
           ·rw [if_pos c20] at H
            have c20b0 : (!(((rd_T166 l0 x11_1).f1.f0).toList == a1_1.toList) || (!(((rd_T166 l0 x11_1).f1.f1) == a1_2))) = true := c20
            clear c20
            by_cases c21 : y174.length < 2932031007402
            ·rw [if_pos c21] at H
             have LMc21 := mkA c21
             clear c21
             obtain ⟨y177, hy177⟩ : ∃ y_ : List (S166), y_ = (y174 ++ [(⟨((rd_T166 l0 x11_1).f0), (⟨((rd_T166 l0 x11_1).f1.f0), ((rd_T166 l0 x11_1).f1.f1)⟩ : S72), ((rd_T166 l0 x11_1).f2)⟩ : S166)]) := ⟨_, rfl⟩
             replace H : (weighlockref24_Put.l0 kj6 y177 true l0 (l0.length : Int) (wrap64 (x11_1 + 1)) a1_0 a1_1 a1_2 a1_3) = some r := by first | (rw [hy177]; with_reducible exact H) | (have H2_ := (Option.bind_some _ _).symm.trans H; rw [hy177]; with_reducible exact H2_) | (have H2_ := (Option.bind_some _ _).symm.trans H; with_reducible exact H2_) | with_reducible exact H | (rw [hy177]; exact H) | exact H
             have Ny177 := mkA hy177
             clear hy177
             have H' := mkA H
             clear H
             have hnb22 := NB167_172.out
             have hnc22 := NB172_167.out
             have hcz23_0 : wc.cell? ⟨gb167, 0, none⟩ = some (.string a1_0) := (bC BK167.out 0).trans rfl
             have hcz23_1 : wc.cell? ⟨gb167, 1, none⟩ = some (.string a1_1) := (bC BK167.out 1).trans rfl
             have hcz23_2 : wc.cell? ⟨gb167, 2, none⟩ = some (.int .i64 a1_2) := (bC BK167.out 2).trans rfl
             have hcz23_3 : wc.cell? ⟨gb167, 3, none⟩ = some (.int .i64 a1_3) := (bC BK167.out 3).trans rfl
             have hfz23_0 := bF BK167.out 0
             have hfz23_1 := bF BK167.out 1
             have hfz23_2 := bF BK167.out 2
             have hfz23_3 := bF BK167.out 3
             go_wp2_with (first | ((with_reducible refine gate_builtin (b := .append) (xs := #[.tmp 23, .tmp 25]) rfl ?_); at_builtin; refine Kd.R_append k166 (w0 := w) w.heap.size rfl (.tmp 23) (.tmp 25) 90 166 (.agg #[(.string ⟨#[]⟩), (.string ⟨#[]⟩), (.int .i64 0), (.int .i64 0)]) 48 rfl Try.underlying90 info166 rfl (by decide) (by omega) u5 x5_1 (⟨a1_0, (⟨a1_1, a1_2⟩ : S72), a1_3⟩ : S166) [.string a1_0, .string a1_1, .int .i64 a1_2, .int .i64 a1_3] (fun k_ => k_ ≠ gb167 ∧ k_ ≠ gb172) (fun _ => False) rfl rfl ?aP (fun _ hk => hk.elim) ?aF ?aO ?aB ?aS ?aL ?_; (case aP => exact k166_mkM _ _ _ (⟨a1_0, (⟨a1_1, a1_2⟩ : S72), a1_3⟩ : S166)); (case aB => exact (by repeat (first | (with_reducible first | exact HB.out | apply lA | apply lN | apply lD | refine lS ?_ GE167.out | refine lS ?_ GE172.out) | exact HB.out))); (case aF => exact (fun k_ hk => ⟨Kd.freshB (g := gb167) (o := .cells #[.string a1_0, .string a1_1, .int .i64 a1_2, .int .i64 a1_3] 166 (0, 0)) (by (with_reducible repeat first | apply bN | apply bD | apply bA); exact BK167.out) k_ hk, Kd.freshB (g := gb172) (o := .cells #[.string ((rd_T166 l0 x11_1).f0), .string ((rd_T166 l0 x11_1).f1.f0), .int .i64 ((rd_T166 l0 x11_1).f1.f1), .int .i64 ((rd_T166 l0 x11_1).f2)] 166 (0, 0)) (by (with_reducible repeat first | apply bN | apply bD | apply bA); exact BK172.out) k_ hk⟩)); (case aO => exact (by (with_reducible repeat (first | apply zrA | apply zrN | apply zrD)); exact HO_5.out)); (case aS => exact (below_size (by repeat (first | (with_reducible first | exact HB.out | apply lA | apply lN | apply lD | refine lS ?_ GE167.out | refine lS ?_ GE172.out) | exact HB.out)))); (case aL => have := LMc18.out; omega); intro v175 w24 ho hb hg hat; rw [← Ny174.out] at ho; have n0_ := mkA (blk_grown (g := gb167) (o := .cells #[.string a1_0, .string a1_1, .int .i64 a1_2, .int .i64 a1_3] 166 (0, 0)) (by (with_reducible repeat first | apply bN | apply bD | apply bA); exact BK167.out) hg (Kd.R_away HO_5.out (fun _ hk => hk.1))); have n1_ := mkA (blk_grown (g := gb172) (o := .cells #[.string ((rd_T166 l0 x11_1).f0), .string ((rd_T166 l0 x11_1).f1.f0), .int .i64 ((rd_T166 l0 x11_1).f1.f1), .int .i64 ((rd_T166 l0 x11_1).f2)] 166 (0, 0)) (by (with_reducible repeat first | apply bN | apply bD | apply bA); exact BK172.out) hg (Kd.R_away HO_5.out (fun _ hk => hk.2))); have n2_ := mkA (hb); have n3_ := mkA (ho); clear BK167; clear BK172; clear HB; clear HO_5; have BK167 := n0_; have BK172 := n1_; have HB := n2_; have HO176 := n3_; clear n0_ n1_ n2_ n3_; clear ho hb hg hat; have hcz25_0 : w24.cell? ⟨gb172, 0, none⟩ = some (.string ((rd_T166 l0 x11_1).f0)) := (bC BK172.out 0).trans rfl; have hcz25_1 : w24.cell? ⟨gb172, 1, none⟩ = some (.string ((rd_T166 l0 x11_1).f1.f0)) := (bC BK172.out 1).trans rfl; have hcz25_2 : w24.cell? ⟨gb172, 2, none⟩ = some (.int .i64 ((rd_T166 l0 x11_1).f1.f1)) := (bC BK172.out 2).trans rfl; have hcz25_3 : w24.cell? ⟨gb172, 3, none⟩ = some (.int .i64 ((rd_T166 l0 x11_1).f2)) := (bC BK172.out 3).trans rfl; have hfz25_0 := bF BK172.out 0; have hfz25_1 := bF BK172.out 1; have hfz25_2 := bF BK172.out 2; have hfz25_3 := bF BK172.out 3; have hcz26_0 : w24.cell? ⟨gb167, 0, none⟩ = some (.string a1_0) := (bC BK167.out 0).trans rfl; have hcz26_1 : w24.cell? ⟨gb167, 1, none⟩ = some (.string a1_1) := (bC BK167.out 1).trans rfl; have hcz26_2 : w24.cell? ⟨gb167, 2, none⟩ = some (.int .i64 a1_2) := (bC BK167.out 2).trans rfl; have hcz26_3 : w24.cell? ⟨gb167, 3, none⟩ = some (.int .i64 a1_3) := (bC BK167.out 3).trans rfl; have hfz26_0 := bF BK167.out 0; have hfz26_1 := bF BK167.out 1; have hfz26_2 := bF BK167.out 2; have hfz26_3 := bF BK167.out 3) | ((with_reducible refine gate_builtin (b := .append) (xs := #[.tmp 39, .tmp 41]) rfl ?_); at_builtin; refine Kd.R_append k166 (w0 := w) w.heap.size rfl (.tmp 39) (.tmp 41) 90 166 (.agg #[(.string ⟨#[]⟩), (.string ⟨#[]⟩), (.int .i64 0), (.int .i64 0)]) 48 rfl Try.underlying90 info166 rfl (by decide) (by omega) v175 y174 (⟨((rd_T166 l0 x11_1).f0), (⟨((rd_T166 l0 x11_1).f1.f0), ((rd_T166 l0 x11_1).f1.f1)⟩ : S72), ((rd_T166 l0 x11_1).f2)⟩ : S166) [.string ((rd_T166 l0 x11_1).f0), .string ((rd_T166 l0 x11_1).f1.f0), .int .i64 ((rd_T166 l0 x11_1).f1.f1), .int .i64 ((rd_T166 l0 x11_1).f2)] (fun k_ => k_ ≠ gb167 ∧ k_ ≠ gb172) (fun _ => False) rfl rfl ?aP (fun _ hk => hk.elim) ?aF ?aO ?aB ?aS ?aL ?_; (case aP => exact k166_mkM _ _ _ (⟨((rd_T166 l0 x11_1).f0), (⟨((rd_T166 l0 x11_1).f1.f0), ((rd_T166 l0 x11_1).f1.f1)⟩ : S72), ((rd_T166 l0 x11_1).f2)⟩ : S166)); (case aB => exact (by repeat (first | (with_reducible first | exact HB.out | apply lA | apply lN | apply lD | refine lS ?_ GE167.out | refine lS ?_ GE172.out) | exact HB.out))); (case aF => exact (fun k_ hk => ⟨Kd.freshB (g := gb167) (o := .cells #[.string a1_0, .string a1_1, .int .i64 a1_2, .int .i64 a1_3] 166 (0, 0)) (by (with_reducible repeat first | apply bN | apply bD | apply bA); exact BK167.out) k_ hk, Kd.freshB (g := gb172) (o := .cells #[.string ((rd_T166 l0 x11_1).f0), .string ((rd_T166 l0 x11_1).f1.f0), .int .i64 ((rd_T166 l0 x11_1).f1.f1), .int .i64 ((rd_T166 l0 x11_1).f2)] 166 (0, 0)) (by (with_reducible repeat first | apply bN | apply bD | apply bA); exact BK172.out) k_ hk⟩)); (case aO => exact (by (with_reducible repeat (first | apply zrA | apply zrN | apply zrD)); exact HO176.out)); (case aS => exact (below_size (by repeat (first | (with_reducible first | exact HB.out | apply lA | apply lN | apply lD | refine lS ?_ GE167.out | refine lS ?_ GE172.out) | exact HB.out)))); (case aL => have := LMc21.out; omega); intro v178 w27 ho hb hg hat; rw [← Ny177.out] at ho; have n0_ := mkA (blk_grown (g := gb167) (o := .cells #[.string a1_0, .string a1_1, .int .i64 a1_2, .int .i64 a1_3] 166 (0, 0)) (by (with_reducible repeat first | apply bN | apply bD | apply bA); exact BK167.out) hg (Kd.R_away HO176.out (fun _ hk => hk.1))); have n1_ := mkA (blk_grown (g := gb172) (o := .cells #[.string ((rd_T166 l0 x11_1).f0), .string ((rd_T166 l0 x11_1).f1.f0), .int .i64 ((rd_T166 l0 x11_1).f1.f1), .int .i64 ((rd_T166 l0 x11_1).f2)] 166 (0, 0)) (by (with_reducible repeat first | apply bN | apply bD | apply bA); exact BK172.out) hg (Kd.R_away HO176.out (fun _ hk => hk.2))); have n2_ := mkA (hb); have n3_ := mkA (ho); clear BK167; clear BK172; clear HB; clear HO176; have BK167 := n0_; have BK172 := n1_; have HB := n2_; have HO179 := n3_; clear n0_ n1_ n2_ n3_; clear ho hb hg hat))
             go_roundg kj6
             case measure => have := HK1.out; have := HJ6.out; omega
             case rel => exact ⟨(y177), (true), (wrap64 (x11_1 + 1)), (by first | rfl | (simp; done) | (simp [*]; done)), (by first | rfl | (simp; done) | (simp [*]; done)), H', ⟨by have := HK1.out; have := HJ6.out; omega⟩, ⟨by (with_reducible repeat (first | apply zrA | apply zrN | apply zrD)); exact zrM HO179.out (fun _ hk => hk.1)⟩, ⟨by (with_reducible repeat first | apply bN | apply bD | apply bA); exact BK167.out⟩, ⟨by repeat (first | (with_reducible first | exact HB.out | apply lA | apply lN | apply lD | refine lS ?_ GE167.out | refine lS ?_ GE172.out) | exact HB.out)⟩⟩
            ·rw [if_neg c21] at H
             exact absurd H (by simp)
           ·rw [if_neg c20] at H
            have c20b0 : (!(((rd_T166 l0 x11_1).f1.f0).toList == a1_1.toList) || (!(((rd_T166 l0 x11_1).f1.f1) == a1_2))) = false := by simpa using c20
            clear c20
            have H' := mkA H
            clear H
            have hnb28 := NB167_172.out
            have hnc28 := NB172_167.out
            have hcz29_0 : wc.cell? ⟨gb167, 0, none⟩ = some (.string a1_0) := (bC BK167.out 0).trans rfl
            have hcz29_1 : wc.cell? ⟨gb167, 1, none⟩ = some (.string a1_1) := (bC BK167.out 1).trans rfl
            have hcz29_2 : wc.cell? ⟨gb167, 2, none⟩ = some (.int .i64 a1_2) := (bC BK167.out 2).trans rfl
            have hcz29_3 : wc.cell? ⟨gb167, 3, none⟩ = some (.int .i64 a1_3) := (bC BK167.out 3).trans rfl
            have hfz29_0 := bF BK167.out 0
            have hfz29_1 := bF BK167.out 1
            have hfz29_2 := bF BK167.out 2
            have hfz29_3 := bF BK167.out 3
            go_wp2_with (first | ((with_reducible refine gate_builtin (b := .append) (xs := #[.tmp 23, .tmp 25]) rfl ?_); at_builtin; refine Kd.R_append k166 (w0 := w) w.heap.size rfl (.tmp 23) (.tmp 25) 90 166 (.agg #[(.string ⟨#[]⟩), (.string ⟨#[]⟩), (.int .i64 0), (.int .i64 0)]) 48 rfl Try.underlying90 info166 rfl (by decide) (by omega) u5 x5_1 (⟨a1_0, (⟨a1_1, a1_2⟩ : S72), a1_3⟩ : S166) [.string a1_0, .string a1_1, .int .i64 a1_2, .int .i64 a1_3] (fun k_ => k_ ≠ gb167 ∧ k_ ≠ gb172) (fun _ => False) rfl rfl ?aP (fun _ hk => hk.elim) ?aF ?aO ?aB ?aS ?aL ?_; (case aP => exact k166_mkM _ _ _ (⟨a1_0, (⟨a1_1, a1_2⟩ : S72), a1_3⟩ : S166)); (case aB => exact (by repeat (first | (with_reducible first | exact HB.out | apply lA | apply lN | apply lD | refine lS ?_ GE167.out | refine lS ?_ GE172.out) | exact HB.out))); (case aF => exact (fun k_ hk => ⟨Kd.freshB (g := gb167) (o := .cells #[.string a1_0, .string a1_1, .int .i64 a1_2, .int .i64 a1_3] 166 (0, 0)) (by (with_reducible repeat first | apply bN | apply bD | apply bA); exact BK167.out) k_ hk, Kd.freshB (g := gb172) (o := .cells #[.string ((rd_T166 l0 x11_1).f0), .string ((rd_T166 l0 x11_1).f1.f0), .int .i64 ((rd_T166 l0 x11_1).f1.f1), .int .i64 ((rd_T166 l0 x11_1).f2)] 166 (0, 0)) (by (with_reducible repeat first | apply bN | apply bD | apply bA); exact BK172.out) k_ hk⟩)); (case aO => exact (by (with_reducible repeat (first | apply zrA | apply zrN | apply zrD)); exact HO_5.out)); (case aS => exact (below_size (by repeat (first | (with_reducible first | exact HB.out | apply lA | apply lN | apply lD | refine lS ?_ GE167.out | refine lS ?_ GE172.out) | exact HB.out)))); (case aL => have := LMc18.out; omega); intro v175 w30 ho hb hg hat; rw [← Ny174.out] at ho; have n0_ := mkA (blk_grown (g := gb167) (o := .cells #[.string a1_0, .string a1_1, .int .i64 a1_2, .int .i64 a1_3] 166 (0, 0)) (by (with_reducible repeat first | apply bN | apply bD | apply bA); exact BK167.out) hg (Kd.R_away HO_5.out (fun _ hk => hk.1))); have n1_ := mkA (blk_grown (g := gb172) (o := .cells #[.string ((rd_T166 l0 x11_1).f0), .string ((rd_T166 l0 x11_1).f1.f0), .int .i64 ((rd_T166 l0 x11_1).f1.f1), .int .i64 ((rd_T166 l0 x11_1).f2)] 166 (0, 0)) (by (with_reducible repeat first | apply bN | apply bD | apply bA); exact BK172.out) hg (Kd.R_away HO_5.out (fun _ hk => hk.2))); have n2_ := mkA (hb); have n3_ := mkA (ho); clear BK167; clear BK172; clear HB; clear HO_5; have BK167 := n0_; have BK172 := n1_; have HB := n2_; have HO176 := n3_; clear n0_ n1_ n2_ n3_; clear ho hb hg hat; have hcz31_0 : w30.cell? ⟨gb172, 0, none⟩ = some (.string ((rd_T166 l0 x11_1).f0)) := (bC BK172.out 0).trans rfl; have hcz31_1 : w30.cell? ⟨gb172, 1, none⟩ = some (.string ((rd_T166 l0 x11_1).f1.f0)) := (bC BK172.out 1).trans rfl; have hcz31_2 : w30.cell? ⟨gb172, 2, none⟩ = some (.int .i64 ((rd_T166 l0 x11_1).f1.f1)) := (bC BK172.out 2).trans rfl; have hcz31_3 : w30.cell? ⟨gb172, 3, none⟩ = some (.int .i64 ((rd_T166 l0 x11_1).f2)) := (bC BK172.out 3).trans rfl; have hfz31_0 := bF BK172.out 0; have hfz31_1 := bF BK172.out 1; have hfz31_2 := bF BK172.out 2; have hfz31_3 := bF BK172.out 3; have hcz32_0 : w30.cell? ⟨gb167, 0, none⟩ = some (.string a1_0) := (bC BK167.out 0).trans rfl; have hcz32_1 : w30.cell? ⟨gb167, 1, none⟩ = some (.string a1_1) := (bC BK167.out 1).trans rfl; have hcz32_2 : w30.cell? ⟨gb167, 2, none⟩ = some (.int .i64 a1_2) := (bC BK167.out 2).trans rfl; have hcz32_3 : w30.cell? ⟨gb167, 3, none⟩ = some (.int .i64 a1_3) := (bC BK167.out 3).trans rfl; have hfz32_0 := bF BK167.out 0; have hfz32_1 := bF BK167.out 1; have hfz32_2 := bF BK167.out 2; have hfz32_3 := bF BK167.out 3))
            go_roundg kj6
            case measure => have := HK1.out; have := HJ6.out; omega
            case rel => exact ⟨(y174), (true), (wrap64 (x11_1 + 1)), (by first | rfl | (simp; done) | (simp [*]; done)), (by first | rfl | (simp; done) | (simp [*]; done)), H', ⟨by have := HK1.out; have := HJ6.out; omega⟩, ⟨by (with_reducible repeat (first | apply zrA | apply zrN | apply zrD)); exact zrM HO176.out (fun _ hk => hk.1)⟩, ⟨by (with_reducible repeat first | apply bN | apply bD | apply bA); exact BK167.out⟩, ⟨by repeat (first | (with_reducible first | exact HB.out | apply lA | apply lN | apply lD | refine lS ?_ GE167.out | refine lS ?_ GE172.out) | exact HB.out)⟩⟩
          ·rw [if_neg c19] at H
           have c19b0 : (((rd_T166 l0 x11_1).f0).toList == a1_0.toList) = false := beq_eq_false_iff_ne.mpr c19
           have c19b1 : (((rd_T166 l0 x11_1).f0).toList != a1_0.toList) = true := bne_iff_ne.mpr c19
           by_cases c33 : y174.length < 2932031007402
           ·rw [if_pos c33] at H
            have LMc33 := mkA c33
            clear c33
            obtain ⟨y180, hy180⟩ : ∃ y_ : List (S166), y_ = (y174 ++ [(⟨((rd_T166 l0 x11_1).f0), (⟨((rd_T166 l0 x11_1).f1.f0), ((rd_T166 l0 x11_1).f1.f1)⟩ : S72), ((rd_T166 l0 x11_1).f2)⟩ : S166)]) := ⟨_, rfl⟩
            replace H : (weighlockref24_Put.l0 kj6 y180 true l0 (l0.length : Int) (wrap64 (x11_1 + 1)) a1_0 a1_1 a1_2 a1_3) = some r := by first | (rw [hy180]; with_reducible exact H) | (have H2_ := (Option.bind_some _ _).symm.trans H; rw [hy180]; with_reducible exact H2_) | (have H2_ := (Option.bind_some _ _).symm.trans H; with_reducible exact H2_) | with_reducible exact H | (rw [hy180]; exact H) | exact H
            have Ny180 := mkA hy180
            clear hy180
            have H' := mkA H
            clear H
            have hnb34 := NB167_172.out
            have hnc34 := NB172_167.out
            have hcz35_0 : wc.cell? ⟨gb167, 0, none⟩ = some (.string a1_0) := (bC BK167.out 0).trans rfl
            have hcz35_1 : wc.cell? ⟨gb167, 1, none⟩ = some (.string a1_1) := (bC BK167.out 1).trans rfl
            have hcz35_2 : wc.cell? ⟨gb167, 2, none⟩ = some (.int .i64 a1_2) := (bC BK167.out 2).trans rfl
            have hcz35_3 : wc.cell? ⟨gb167, 3, none⟩ = some (.int .i64 a1_3) := (bC BK167.out 3).trans rfl
            have hfz35_0 := bF BK167.out 0
            have hfz35_1 := bF BK167.out 1
            have hfz35_2 := bF BK167.out 2
            have hfz35_3 := bF BK167.out 3
            go_wp2_with (first | ((with_reducible refine gate_builtin (b := .append) (xs := #[.tmp 23, .tmp 25]) rfl ?_); at_builtin; refine Kd.R_append k166 (w0 := w) w.heap.size rfl (.tmp 23) (.tmp 25) 90 166 (.agg #[(.string ⟨#[]⟩), (.string ⟨#[]⟩), (.int .i64 0), (.int .i64 0)]) 48 rfl Try.underlying90 info166 rfl (by decide) (by omega) u5 x5_1 (⟨a1_0, (⟨a1_1, a1_2⟩ : S72), a1_3⟩ : S166) [.string a1_0, .string a1_1, .int .i64 a1_2, .int .i64 a1_3] (fun k_ => k_ ≠ gb167 ∧ k_ ≠ gb172) (fun _ => False) rfl rfl ?aP (fun _ hk => hk.elim) ?aF ?aO ?aB ?aS ?aL ?_; (case aP => exact k166_mkM _ _ _ (⟨a1_0, (⟨a1_1, a1_2⟩ : S72), a1_3⟩ : S166)); (case aB => exact (by repeat (first | (with_reducible first | exact HB.out | apply lA | apply lN | apply lD | refine lS ?_ GE167.out | refine lS ?_ GE172.out) | exact HB.out))); (case aF => exact (fun k_ hk => ⟨Kd.freshB (g := gb167) (o := .cells #[.string a1_0, .string a1_1, .int .i64 a1_2, .int .i64 a1_3] 166 (0, 0)) (by (with_reducible repeat first | apply bN | apply bD | apply bA); exact BK167.out) k_ hk, Kd.freshB (g := gb172) (o := .cells #[.string ((rd_T166 l0 x11_1).f0), .string ((rd_T166 l0 x11_1).f1.f0), .int .i64 ((rd_T166 l0 x11_1).f1.f1), .int .i64 ((rd_T166 l0 x11_1).f2)] 166 (0, 0)) (by (with_reducible repeat first | apply bN | apply bD | apply bA); exact BK172.out) k_ hk⟩)); (case aO => exact (by (with_reducible repeat (first | apply zrA | apply zrN | apply zrD)); exact HO_5.out)); (case aS => exact (below_size (by repeat (first | (with_reducible first | exact HB.out | apply lA | apply lN | apply lD | refine lS ?_ GE167.out | refine lS ?_ GE172.out) | exact HB.out)))); (case aL => have := LMc18.out; omega); intro v175 w36 ho hb hg hat; rw [← Ny174.out] at ho; have n0_ := mkA (blk_grown (g := gb167) (o := .cells #[.string a1_0, .string a1_1, .int .i64 a1_2, .int .i64 a1_3] 166 (0, 0)) (by (with_reducible repeat first | apply bN | apply bD | apply bA); exact BK167.out) hg (Kd.R_away HO_5.out (fun _ hk => hk.1))); have n1_ := mkA (blk_grown (g := gb172) (o := .cells #[.string ((rd_T166 l0 x11_1).f0), .string ((rd_T166 l0 x11_1).f1.f0), .int .i64 ((rd_T166 l0 x11_1).f1.f1), .int .i64 ((rd_T166 l0 x11_1).f2)] 166 (0, 0)) (by (with_reducible repeat first | apply bN | apply bD | apply bA); exact BK172.out) hg (Kd.R_away HO_5.out (fun _ hk => hk.2))); have n2_ := mkA (hb); have n3_ := mkA (ho); clear BK167; clear BK172; clear HB; clear HO_5; have BK167 := n0_; have BK172 := n1_; have HB := n2_; have HO176 := n3_; clear n0_ n1_ n2_ n3_; clear ho hb hg hat; have hcz37_0 : w36.cell? ⟨gb172, 0, none⟩ = some (.string ((rd_T166 l0 x11_1).f0)) := (bC BK172.out 0).trans rfl; have hcz37_1 : w36.cell? ⟨gb172, 1, none⟩ = some (.string ((rd_T166 l0 x11_1).f1.f0)) := (bC BK172.out 1).trans rfl; have hcz37_2 : w36.cell? ⟨gb172, 2, none⟩ = some (.int .i64 ((rd_T166 l0 x11_1).f1.f1)) := (bC BK172.out 2).trans rfl; have hcz37_3 : w36.cell? ⟨gb172, 3, none⟩ = some (.int .i64 ((rd_T166 l0 x11_1).f2)) := (bC BK172.out 3).trans rfl; have hfz37_0 := bF BK172.out 0; have hfz37_1 := bF BK172.out 1; have hfz37_2 := bF BK172.out 2; have hfz37_3 := bF BK172.out 3; have hcz38_0 : w36.cell? ⟨gb167, 0, none⟩ = some (.string a1_0) := (bC BK167.out 0).trans rfl; have hcz38_1 : w36.cell? ⟨gb167, 1, none⟩ = some (.string a1_1) := (bC BK167.out 1).trans rfl; have hcz38_2 : w36.cell? ⟨gb167, 2, none⟩ = some (.int .i64 a1_2) := (bC BK167.out 2).trans rfl; have hcz38_3 : w36.cell? ⟨gb167, 3, none⟩ = some (.int .i64 a1_3) := (bC BK167.out 3).trans rfl; have hfz38_0 := bF BK167.out 0; have hfz38_1 := bF BK167.out 1; have hfz38_2 := bF BK167.out 2; have hfz38_3 := bF BK167.out 3) | ((with_reducible refine gate_builtin (b := .append) (xs := #[.tmp 39, .tmp 41]) rfl ?_); at_builtin; refine Kd.R_append k166 (w0 := w) w.heap.size rfl (.tmp 39) (.tmp 41) 90 166 (.agg #[(.string ⟨#[]⟩), (.string ⟨#[]⟩), (.int .i64 0), (.int .i64 0)]) 48 rfl Try.underlying90 info166 rfl (by decide) (by omega) v175 y174 (⟨((rd_T166 l0 x11_1).f0), (⟨((rd_T166 l0 x11_1).f1.f0), ((rd_T166 l0 x11_1).f1.f1)⟩ : S72), ((rd_T166 l0 x11_1).f2)⟩ : S166) [.string ((rd_T166 l0 x11_1).f0), .string ((rd_T166 l0 x11_1).f1.f0), .int .i64 ((rd_T166 l0 x11_1).f1.f1), .int .i64 ((rd_T166 l0 x11_1).f2)] (fun k_ => k_ ≠ gb167 ∧ k_ ≠ gb172) (fun _ => False) rfl rfl ?aP (fun _ hk => hk.elim) ?aF ?aO ?aB ?aS ?aL ?_; (case aP => exact k166_mkM _ _ _ (⟨((rd_T166 l0 x11_1).f0), (⟨((rd_T166 l0 x11_1).f1.f0), ((rd_T166 l0 x11_1).f1.f1)⟩ : S72), ((rd_T166 l0 x11_1).f2)⟩ : S166)); (case aB => exact (by repeat (first | (with_reducible first | exact HB.out | apply lA | apply lN | apply lD | refine lS ?_ GE167.out | refine lS ?_ GE172.out) | exact HB.out))); (case aF => exact (fun k_ hk => ⟨Kd.freshB (g := gb167) (o := .cells #[.string a1_0, .string a1_1, .int .i64 a1_2, .int .i64 a1_3] 166 (0, 0)) (by (with_reducible repeat first | apply bN | apply bD | apply bA); exact BK167.out) k_ hk, Kd.freshB (g := gb172) (o := .cells #[.string ((rd_T166 l0 x11_1).f0), .string ((rd_T166 l0 x11_1).f1.f0), .int .i64 ((rd_T166 l0 x11_1).f1.f1), .int .i64 ((rd_T166 l0 x11_1).f2)] 166 (0, 0)) (by (with_reducible repeat first | apply bN | apply bD | apply bA); exact BK172.out) k_ hk⟩)); (case aO => exact (by (with_reducible repeat (first | apply zrA | apply zrN | apply zrD)); exact HO176.out)); (case aS => exact (below_size (by repeat (first | (with_reducible first | exact HB.out | apply lA | apply lN | apply lD | refine lS ?_ GE167.out | refine lS ?_ GE172.out) | exact HB.out)))); (case aL => have := LMc33.out; omega); intro v181 w39 ho hb hg hat; rw [← Ny180.out] at ho; have n0_ := mkA (blk_grown (g := gb167) (o := .cells #[.string a1_0, .string a1_1, .int .i64 a1_2, .int .i64 a1_3] 166 (0, 0)) (by (with_reducible repeat first | apply bN | apply bD | apply bA); exact BK167.out) hg (Kd.R_away HO176.out (fun _ hk => hk.1))); have n1_ := mkA (blk_grown (g := gb172) (o := .cells #[.string ((rd_T166 l0 x11_1).f0), .string ((rd_T166 l0 x11_1).f1.f0), .int .i64 ((rd_T166 l0 x11_1).f1.f1), .int .i64 ((rd_T166 l0 x11_1).f2)] 166 (0, 0)) (by (with_reducible repeat first | apply bN | apply bD | apply bA); exact BK172.out) hg (Kd.R_away HO176.out (fun _ hk => hk.2))); have n2_ := mkA (hb); have n3_ := mkA (ho); clear BK167; clear BK172; clear HB; clear HO176; have BK167 := n0_; have BK172 := n1_; have HB := n2_; have HO182 := n3_; clear n0_ n1_ n2_ n3_; clear ho hb hg hat))
            go_roundg kj6
            case measure => have := HK1.out; have := HJ6.out; omega
            case rel => exact ⟨(y180), (true), (wrap64 (x11_1 + 1)), (by first | rfl | (simp; done) | (simp [*]; done)), (by first | rfl | (simp; done) | (simp [*]; done)), H', ⟨by have := HK1.out; have := HJ6.out; omega⟩, ⟨by (with_reducible repeat (first | apply zrA | apply zrN | apply zrD)); exact zrM HO182.out (fun _ hk => hk.1)⟩, ⟨by (with_reducible repeat first | apply bN | apply bD | apply bA); exact BK167.out⟩, ⟨by repeat (first | (with_reducible first | exact HB.out | apply lA | apply lN | apply lD | refine lS ?_ GE167.out | refine lS ?_ GE172.out) | exact HB.out)⟩⟩
           ·rw [if_neg c33] at H
            exact absurd H (by simp)
         ·rw [if_neg c18] at H
          exact absurd H (by simp)
        ·replace c17 := Bool.eq_false_iff.mpr c17
         subst c17
         have H1 : (if ((rd_T166 l0 x11_1).f0).toList = a1_0.toList then (if (!(((rd_T166 l0 x11_1).f1.f0).toList == a1_1.toList) || (!(((rd_T166 l0 x11_1).f1.f1) == a1_2))) = true then (if x5_1.length < 2932031007402 then (weighlockref24_Put.l0 kj6 (x5_1 ++ [(⟨((rd_T166 l0 x11_1).f0), (⟨((rd_T166 l0 x11_1).f1.f0), ((rd_T166 l0 x11_1).f1.f1)⟩ : S72), ((rd_T166 l0 x11_1).f2)⟩ : S166)]) x6_1 l0 (l0.length : Int) (wrap64 (x11_1 + 1)) a1_0 a1_1 a1_2 a1_3) else (none)) else (weighlockref24_Put.l0 kj6 x5_1 x6_1 l0 (l0.length : Int) (wrap64 (x11_1 + 1)) a1_0 a1_1 a1_2 a1_3)) else (if x5_1.length < 2932031007402 then (weighlockref24_Put.l0 kj6 (x5_1 ++ [(⟨((rd_T166 l0 x11_1).f0), (⟨((rd_T166 l0 x11_1).f1.f0), ((rd_T166 l0 x11_1).f1.f1)⟩ : S72), ((rd_T166 l0 x11_1).f2)⟩ : S166)]) x6_1 l0 (l0.length : Int) (wrap64 (x11_1 + 1)) a1_0 a1_1 a1_2 a1_3) else (none))) = some r := by rw [if_neg (show ¬ (false = true) by decide)] at H; exact H
         clear H
         have H := H1
         clear H1
         by_cases c40 : ((rd_T166 l0 x11_1).f0).toList = a1_0.toList
         ·rw [if_pos c40] at H
          have c40b0 : (((rd_T166 l0 x11_1).f0).toList == a1_0.toList) = true := beq_iff_eq.mpr c40
          have c40b1 : (((rd_T166 l0 x11_1).f0).toList != a1_0.toList) = false := bne_eq_false_iff_eq.mpr c40
          clear c40
          by_cases c41 : (!(((rd_T166 l0 x11_1).f1.f0).toList == a1_1.toList) || (!(((rd_T166 l0 x11_1).f1.f1) == a1_2))) = true
          ·rw [if_pos c41] at H
           have c41b0 : (!(((rd_T166 l0 x11_1).f1.f0).toList == a1_1.toList) || (!(((rd_T166 l0 x11_1).f1.f1) == a1_2))) = true := c41
           clear c41
           by_cases c42 : x5_1.length < 2932031007402
           ·rw [if_pos c42] at H
            have LMc42 := mkA c42
            clear c42
            obtain ⟨y183, hy183⟩ : ∃ y_ : List (S166), y_ = (x5_1 ++ [(⟨((rd_T166 l0 x11_1).f0), (⟨((rd_T166 l0 x11_1).f1.f0), ((rd_T166 l0 x11_1).f1.f1)⟩ : S72), ((rd_T166 l0 x11_1).f2)⟩ : S166)]) := ⟨_, rfl⟩
            replace H : (weighlockref24_Put.l0 kj6 y183 x6_1 l0 (l0.length : Int) (wrap64 (x11_1 + 1)) a1_0 a1_1 a1_2 a1_3) = some r := by first | (rw [hy183]; with_reducible exact H) | (have H2_ := (Option.bind_some _ _).symm.trans H; rw [hy183]; with_reducible exact H2_) | (have H2_ := (Option.bind_some _ _).symm.trans H; with_reducible exact H2_) | with_reducible exact H | (rw [hy183]; exact H) | exact H
            have Ny183 := mkA hy183
            clear hy183
            have H' := mkA H
            clear H
            have hnb43 := NB172_167.out
            have hnc43 := NB167_172.out
            have hcz44_0 : wc.cell? ⟨gb172, 0, none⟩ = some (.string ((rd_T166 l0 x11_1).f0)) := (bC BK172.out 0).trans rfl
            have hcz44_1 : wc.cell? ⟨gb172, 1, none⟩ = some (.string ((rd_T166 l0 x11_1).f1.f0)) := (bC BK172.out 1).trans rfl
            have hcz44_2 : wc.cell? ⟨gb172, 2, none⟩ = some (.int .i64 ((rd_T166 l0 x11_1).f1.f1)) := (bC BK172.out 2).trans rfl
            have hcz44_3 : wc.cell? ⟨gb172, 3, none⟩ = some (.int .i64 ((rd_T166 l0 x11_1).f2)) := (bC BK172.out 3).trans rfl
            have hfz44_0 := bF BK172.out 0
            have hfz44_1 := bF BK172.out 1
            have hfz44_2 := bF BK172.out 2
            have hfz44_3 := bF BK172.out 3
            have hcz45_0 : wc.cell? ⟨gb167, 0, none⟩ = some (.string a1_0) := (bC BK167.out 0).trans rfl
            have hcz45_1 : wc.cell? ⟨gb167, 1, none⟩ = some (.string a1_1) := (bC BK167.out 1).trans rfl
            have hcz45_2 : wc.cell? ⟨gb167, 2, none⟩ = some (.int .i64 a1_2) := (bC BK167.out 2).trans rfl
            have hcz45_3 : wc.cell? ⟨gb167, 3, none⟩ = some (.int .i64 a1_3) := (bC BK167.out 3).trans rfl
            have hfz45_0 := bF BK167.out 0
            have hfz45_1 := bF BK167.out 1
            have hfz45_2 := bF BK167.out 2
            have hfz45_3 := bF BK167.out 3
            go_wp2_with (first | ((with_reducible refine gate_builtin (b := .append) (xs := #[.tmp 39, .tmp 41]) rfl ?_); at_builtin; refine Kd.R_append k166 (w0 := w) w.heap.size rfl (.tmp 39) (.tmp 41) 90 166 (.agg #[(.string ⟨#[]⟩), (.string ⟨#[]⟩), (.int .i64 0), (.int .i64 0)]) 48 rfl Try.underlying90 info166 rfl (by decide) (by omega) u5 x5_1 (⟨((rd_T166 l0 x11_1).f0), (⟨((rd_T166 l0 x11_1).f1.f0), ((rd_T166 l0 x11_1).f1.f1)⟩ : S72), ((rd_T166 l0 x11_1).f2)⟩ : S166) [.string ((rd_T166 l0 x11_1).f0), .string ((rd_T166 l0 x11_1).f1.f0), .int .i64 ((rd_T166 l0 x11_1).f1.f1), .int .i64 ((rd_T166 l0 x11_1).f2)] (fun k_ => k_ ≠ gb167 ∧ k_ ≠ gb172) (fun _ => False) rfl rfl ?aP (fun _ hk => hk.elim) ?aF ?aO ?aB ?aS ?aL ?_; (case aP => exact k166_mkM _ _ _ (⟨((rd_T166 l0 x11_1).f0), (⟨((rd_T166 l0 x11_1).f1.f0), ((rd_T166 l0 x11_1).f1.f1)⟩ : S72), ((rd_T166 l0 x11_1).f2)⟩ : S166)); (case aB => exact (by repeat (first | (with_reducible first | exact HB.out | apply lA | apply lN | apply lD | refine lS ?_ GE167.out | refine lS ?_ GE172.out) | exact HB.out))); (case aF => exact (fun k_ hk => ⟨Kd.freshB (g := gb167) (o := .cells #[.string a1_0, .string a1_1, .int .i64 a1_2, .int .i64 a1_3] 166 (0, 0)) (by (with_reducible repeat first | apply bN | apply bD | apply bA); exact BK167.out) k_ hk, Kd.freshB (g := gb172) (o := .cells #[.string ((rd_T166 l0 x11_1).f0), .string ((rd_T166 l0 x11_1).f1.f0), .int .i64 ((rd_T166 l0 x11_1).f1.f1), .int .i64 ((rd_T166 l0 x11_1).f2)] 166 (0, 0)) (by (with_reducible repeat first | apply bN | apply bD | apply bA); exact BK172.out) k_ hk⟩)); (case aO => exact (by (with_reducible repeat (first | apply zrA | apply zrN | apply zrD)); exact HO_5.out)); (case aS => exact (below_size (by repeat (first | (with_reducible first | exact HB.out | apply lA | apply lN | apply lD | refine lS ?_ GE167.out | refine lS ?_ GE172.out) | exact HB.out)))); (case aL => have := LMc42.out; omega); intro v184 w46 ho hb hg hat; rw [← Ny183.out] at ho; have n0_ := mkA (blk_grown (g := gb167) (o := .cells #[.string a1_0, .string a1_1, .int .i64 a1_2, .int .i64 a1_3] 166 (0, 0)) (by (with_reducible repeat first | apply bN | apply bD | apply bA); exact BK167.out) hg (Kd.R_away HO_5.out (fun _ hk => hk.1))); have n1_ := mkA (blk_grown (g := gb172) (o := .cells #[.string ((rd_T166 l0 x11_1).f0), .string ((rd_T166 l0 x11_1).f1.f0), .int .i64 ((rd_T166 l0 x11_1).f1.f1), .int .i64 ((rd_T166 l0 x11_1).f2)] 166 (0, 0)) (by (with_reducible repeat first | apply bN | apply bD | apply bA); exact BK172.out) hg (Kd.R_away HO_5.out (fun _ hk => hk.2))); have n2_ := mkA (hb); have n3_ := mkA (ho); clear BK167; clear BK172; clear HB; clear HO_5; have BK167 := n0_; have BK172 := n1_; have HB := n2_; have HO185 := n3_; clear n0_ n1_ n2_ n3_; clear ho hb hg hat))
            go_roundg kj6
            case measure => have := HK1.out; have := HJ6.out; omega
            case rel => exact ⟨(y183), (x6_1), (wrap64 (x11_1 + 1)), (by first | rfl | (simp; done) | (simp [*]; done)), (by first | rfl | (simp; done) | (simp [*]; done)), H', ⟨by have := HK1.out; have := HJ6.out; omega⟩, ⟨by (with_reducible repeat (first | apply zrA | apply zrN | apply zrD)); exact zrM HO185.out (fun _ hk => hk.1)⟩, ⟨by (with_reducible repeat first | apply bN | apply bD | apply bA); exact BK167.out⟩, ⟨by repeat (first | (with_reducible first | exact HB.out | apply lA | apply lN | apply lD | refine lS ?_ GE167.out | refine lS ?_ GE172.out) | exact HB.out)⟩⟩
           ·rw [if_neg c42] at H
            exact absurd H (by simp)
          ·rw [if_neg c41] at H
           have c41b0 : (!(((rd_T166 l0 x11_1).f1.f0).toList == a1_1.toList) || (!(((rd_T166 l0 x11_1).f1.f1) == a1_2))) = false := by simpa using c41
           clear c41
           have H' := mkA H
           clear H
           have hnb47 := NB172_167.out
           have hnc47 := NB167_172.out
           have hcz48_0 : wc.cell? ⟨gb172, 0, none⟩ = some (.string ((rd_T166 l0 x11_1).f0)) := (bC BK172.out 0).trans rfl
           have hcz48_1 : wc.cell? ⟨gb172, 1, none⟩ = some (.string ((rd_T166 l0 x11_1).f1.f0)) := (bC BK172.out 1).trans rfl
           have hcz48_2 : wc.cell? ⟨gb172, 2, none⟩ = some (.int .i64 ((rd_T166 l0 x11_1).f1.f1)) := (bC BK172.out 2).trans rfl
           have hcz48_3 : wc.cell? ⟨gb172, 3, none⟩ = some (.int .i64 ((rd_T166 l0 x11_1).f2)) := (bC BK172.out 3).trans rfl
           have hfz48_0 := bF BK172.out 0
           have hfz48_1 := bF BK172.out 1
           have hfz48_2 := bF BK172.out 2
           have hfz48_3 := bF BK172.out 3
           have hcz49_0 : wc.cell? ⟨gb167, 0, none⟩ = some (.string a1_0) := (bC BK167.out 0).trans rfl
           have hcz49_1 : wc.cell? ⟨gb167, 1, none⟩ = some (.string a1_1) := (bC BK167.out 1).trans rfl
           have hcz49_2 : wc.cell? ⟨gb167, 2, none⟩ = some (.int .i64 a1_2) := (bC BK167.out 2).trans rfl
           have hcz49_3 : wc.cell? ⟨gb167, 3, none⟩ = some (.int .i64 a1_3) := (bC BK167.out 3).trans rfl
           have hfz49_0 := bF BK167.out 0
           have hfz49_1 := bF BK167.out 1
           have hfz49_2 := bF BK167.out 2
           have hfz49_3 := bF BK167.out 3
           go_wp2
           go_roundg kj6
           case measure => have := HK1.out; have := HJ6.out; omega
           case rel => exact ⟨(x5_1), (x6_1), (wrap64 (x11_1 + 1)), (by first | rfl | (simp; done) | (simp [*]; done)), (by first | rfl | (simp; done) | (simp [*]; done)), H', ⟨by have := HK1.out; have := HJ6.out; omega⟩, ⟨by (with_reducible repeat (first | apply zrA | apply zrN | apply zrD)); exact zrM HO_5.out (fun _ hk => hk.1)⟩, ⟨by (with_reducible repeat first | apply bN | apply bD | apply bA); exact BK167.out⟩, ⟨by repeat (first | (with_reducible first | exact HB.out | apply lA | apply lN | apply lD | refine lS ?_ GE167.out | refine lS ?_ GE172.out) | exact HB.out)⟩⟩
         ·rw [if_neg c40] at H
          have c40b0 : (((rd_T166 l0 x11_1).f0).toList == a1_0.toList) = false := beq_eq_false_iff_ne.mpr c40
          have c40b1 : (((rd_T166 l0 x11_1).f0).toList != a1_0.toList) = true := bne_iff_ne.mpr c40
          by_cases c50 : x5_1.length < 2932031007402
          ·rw [if_pos c50] at H
           have LMc50 := mkA c50
           clear c50
           obtain ⟨y186, hy186⟩ : ∃ y_ : List (S166), y_ = (x5_1 ++ [(⟨((rd_T166 l0 x11_1).f0), (⟨((rd_T166 l0 x11_1).f1.f0), ((rd_T166 l0 x11_1).f1.f1)⟩ : S72), ((rd_T166 l0 x11_1).f2)⟩ : S166)]) := ⟨_, rfl⟩
           replace H : (weighlockref24_Put.l0 kj6 y186 x6_1 l0 (l0.length : Int) (wrap64 (x11_1 + 1)) a1_0 a1_1 a1_2 a1_3) = some r := by first | (rw [hy186]; with_reducible exact H) | (have H2_ := (Option.bind_some _ _).symm.trans H; rw [hy186]; with_reducible exact H2_) | (have H2_ := (Option.bind_some _ _).symm.trans H; with_reducible exact H2_) | with_reducible exact H | (rw [hy186]; exact H) | exact H
           have Ny186 := mkA hy186
           clear hy186
           have H' := mkA H
           clear H
           have hnb51 := NB172_167.out
           have hnc51 := NB167_172.out
           have hcz52_0 : wc.cell? ⟨gb172, 0, none⟩ = some (.string ((rd_T166 l0 x11_1).f0)) := (bC BK172.out 0).trans rfl
           have hcz52_1 : wc.cell? ⟨gb172, 1, none⟩ = some (.string ((rd_T166 l0 x11_1).f1.f0)) := (bC BK172.out 1).trans rfl
           have hcz52_2 : wc.cell? ⟨gb172, 2, none⟩ = some (.int .i64 ((rd_T166 l0 x11_1).f1.f1)) := (bC BK172.out 2).trans rfl
           have hcz52_3 : wc.cell? ⟨gb172, 3, none⟩ = some (.int .i64 ((rd_T166 l0 x11_1).f2)) := (bC BK172.out 3).trans rfl
           have hfz52_0 := bF BK172.out 0
           have hfz52_1 := bF BK172.out 1
           have hfz52_2 := bF BK172.out 2
           have hfz52_3 := bF BK172.out 3
           have hcz53_0 : wc.cell? ⟨gb167, 0, none⟩ = some (.string a1_0) := (bC BK167.out 0).trans rfl
           have hcz53_1 : wc.cell? ⟨gb167, 1, none⟩ = some (.string a1_1) := (bC BK167.out 1).trans rfl
           have hcz53_2 : wc.cell? ⟨gb167, 2, none⟩ = some (.int .i64 a1_2) := (bC BK167.out 2).trans rfl
           have hcz53_3 : wc.cell? ⟨gb167, 3, none⟩ = some (.int .i64 a1_3) := (bC BK167.out 3).trans rfl
           have hfz53_0 := bF BK167.out 0
           have hfz53_1 := bF BK167.out 1
           have hfz53_2 := bF BK167.out 2
           have hfz53_3 := bF BK167.out 3
           go_wp2_with (first | ((with_reducible refine gate_builtin (b := .append) (xs := #[.tmp 39, .tmp 41]) rfl ?_); at_builtin; refine Kd.R_append k166 (w0 := w) w.heap.size rfl (.tmp 39) (.tmp 41) 90 166 (.agg #[(.string ⟨#[]⟩), (.string ⟨#[]⟩), (.int .i64 0), (.int .i64 0)]) 48 rfl Try.underlying90 info166 rfl (by decide) (by omega) u5 x5_1 (⟨((rd_T166 l0 x11_1).f0), (⟨((rd_T166 l0 x11_1).f1.f0), ((rd_T166 l0 x11_1).f1.f1)⟩ : S72), ((rd_T166 l0 x11_1).f2)⟩ : S166) [.string ((rd_T166 l0 x11_1).f0), .string ((rd_T166 l0 x11_1).f1.f0), .int .i64 ((rd_T166 l0 x11_1).f1.f1), .int .i64 ((rd_T166 l0 x11_1).f2)] (fun k_ => k_ ≠ gb167 ∧ k_ ≠ gb172) (fun _ => False) rfl rfl ?aP (fun _ hk => hk.elim) ?aF ?aO ?aB ?aS ?aL ?_; (case aP => exact k166_mkM _ _ _ (⟨((rd_T166 l0 x11_1).f0), (⟨((rd_T166 l0 x11_1).f1.f0), ((rd_T166 l0 x11_1).f1.f1)⟩ : S72), ((rd_T166 l0 x11_1).f2)⟩ : S166)); (case aB => exact (by repeat (first | (with_reducible first | exact HB.out | apply lA | apply lN | apply lD | refine lS ?_ GE167.out | refine lS ?_ GE172.out) | exact HB.out))); (case aF => exact (fun k_ hk => ⟨Kd.freshB (g := gb167) (o := .cells #[.string a1_0, .string a1_1, .int .i64 a1_2, .int .i64 a1_3] 166 (0, 0)) (by (with_reducible repeat first | apply bN | apply bD | apply bA); exact BK167.out) k_ hk, Kd.freshB (g := gb172) (o := .cells #[.string ((rd_T166 l0 x11_1).f0), .string ((rd_T166 l0 x11_1).f1.f0), .int .i64 ((rd_T166 l0 x11_1).f1.f1), .int .i64 ((rd_T166 l0 x11_1).f2)] 166 (0, 0)) (by (with_reducible repeat first | apply bN | apply bD | apply bA); exact BK172.out) k_ hk⟩)); (case aO => exact (by (with_reducible repeat (first | apply zrA | apply zrN | apply zrD)); exact HO_5.out)); (case aS => exact (below_size (by repeat (first | (with_reducible first | exact HB.out | apply lA | apply lN | apply lD | refine lS ?_ GE167.out | refine lS ?_ GE172.out) | exact HB.out)))); (case aL => have := LMc50.out; omega); intro v187 w54 ho hb hg hat; rw [← Ny186.out] at ho; have n0_ := mkA (blk_grown (g := gb167) (o := .cells #[.string a1_0, .string a1_1, .int .i64 a1_2, .int .i64 a1_3] 166 (0, 0)) (by (with_reducible repeat first | apply bN | apply bD | apply bA); exact BK167.out) hg (Kd.R_away HO_5.out (fun _ hk => hk.1))); have n1_ := mkA (blk_grown (g := gb172) (o := .cells #[.string ((rd_T166 l0 x11_1).f0), .string ((rd_T166 l0 x11_1).f1.f0), .int .i64 ((rd_T166 l0 x11_1).f1.f1), .int .i64 ((rd_T166 l0 x11_1).f2)] 166 (0, 0)) (by (with_reducible repeat first | apply bN | apply bD | apply bA); exact BK172.out) hg (Kd.R_away HO_5.out (fun _ hk => hk.2))); have n2_ := mkA (hb); have n3_ := mkA (ho); clear BK167; clear BK172; clear HB; clear HO_5; have BK167 := n0_; have BK172 := n1_; have HB := n2_; have HO188 := n3_; clear n0_ n1_ n2_ n3_; clear ho hb hg hat))
           go_roundg kj6
           case measure => have := HK1.out; have := HJ6.out; omega
           case rel => exact ⟨(y186), (x6_1), (wrap64 (x11_1 + 1)), (by first | rfl | (simp; done) | (simp [*]; done)), (by first | rfl | (simp; done) | (simp [*]; done)), H', ⟨by have := HK1.out; have := HJ6.out; omega⟩, ⟨by (with_reducible repeat (first | apply zrA | apply zrN | apply zrD)); exact zrM HO188.out (fun _ hk => hk.1)⟩, ⟨by (with_reducible repeat first | apply bN | apply bD | apply bA); exact BK167.out⟩, ⟨by repeat (first | (with_reducible first | exact HB.out | apply lA | apply lN | apply lD | refine lS ?_ GE167.out | refine lS ?_ GE172.out) | exact HB.out)⟩⟩
          ·rw [if_neg c50] at H
           exact absurd H (by simp)
     ·rw [if_neg c6] at H
      exact absurd H (by simp)
    ·rw [if_neg c5] at H
     exact absurd H (by simp)
   ·rw [if_neg c4] at H
    have c4b0 : decide (x11_1 < (l0.length : Int)) = false := decide_eq_false c4
    clear c4
    by_cases c55 : x6_1 = true
    ·subst c55
     have H1 : (some x5_1) = some r := by rw [if_pos rfl] at H; exact H
     clear H
     have H := H1
     clear H1
     obtain rfl := Option.some.inj H
     go_wp2
     go_ret
     exact ⟨_, by first | rfl | (simp [errW_none, errW_some] <;> rfl) | (simp [*, errW_none, errW_some] <;> rfl), by (with_reducible repeat (first | apply zrA | apply zrN | apply zrD)); exact zrM HO_5.out (fun _ hk => trivial), by repeat (first | (with_reducible first | exact HB.out | apply lA | apply lN | apply lD | refine lS ?_ GE167.out) | exact HB.out)⟩
    ·replace c55 := Bool.eq_false_iff.mpr c55
     subst c55
     have H1 : (if x5_1.length < 2932031007402 then (some (x5_1 ++ [(⟨a1_0, (⟨a1_1, a1_2⟩ : S72), a1_3⟩ : S166)])) else (none)) = some r := by rw [if_neg (show ¬ (false = true) by decide)] at H; exact H
     clear H
     have H := H1
     clear H1
     by_cases c56 : x5_1.length < 2932031007402
     ·rw [if_pos c56] at H
      have LMc56 := mkA c56
      clear c56
      obtain ⟨y168, hy168⟩ : ∃ y_ : List (S166), y_ = (x5_1 ++ [(⟨a1_0, (⟨a1_1, a1_2⟩ : S72), a1_3⟩ : S166)]) := ⟨_, rfl⟩
      replace H : (some y168) = some r := by first | (rw [hy168]; with_reducible exact H) | (have H2_ := (Option.bind_some _ _).symm.trans H; rw [hy168]; with_reducible exact H2_) | (have H2_ := (Option.bind_some _ _).symm.trans H; with_reducible exact H2_) | with_reducible exact H | (rw [hy168]; exact H) | exact H
      have Ny168 := mkA hy168
      clear hy168
      obtain rfl := Option.some.inj H
      have hcz57_0 : wr.cell? ⟨gb167, 0, none⟩ = some (.string a1_0) := (bC BK167.out 0).trans rfl
      have hcz57_1 : wr.cell? ⟨gb167, 1, none⟩ = some (.string a1_1) := (bC BK167.out 1).trans rfl
      have hcz57_2 : wr.cell? ⟨gb167, 2, none⟩ = some (.int .i64 a1_2) := (bC BK167.out 2).trans rfl
      have hcz57_3 : wr.cell? ⟨gb167, 3, none⟩ = some (.int .i64 a1_3) := (bC BK167.out 3).trans rfl
      have hfz57_0 := bF BK167.out 0
      have hfz57_1 := bF BK167.out 1
      have hfz57_2 := bF BK167.out 2
      have hfz57_3 := bF BK167.out 3
      go_wp2_with (first | ((with_reducible refine gate_builtin (b := .append) (xs := #[.tmp 46, .tmp 48]) rfl ?_); at_builtin; refine Kd.R_append k166 (w0 := w) w.heap.size rfl (.tmp 46) (.tmp 48) 90 166 (.agg #[(.string ⟨#[]⟩), (.string ⟨#[]⟩), (.int .i64 0), (.int .i64 0)]) 48 rfl Try.underlying90 info166 rfl (by decide) (by omega) u5 x5_1 (⟨a1_0, (⟨a1_1, a1_2⟩ : S72), a1_3⟩ : S166) [.string a1_0, .string a1_1, .int .i64 a1_2, .int .i64 a1_3] (fun k_ => k_ ≠ gb167) (fun _ => False) rfl rfl ?aP (fun _ hk => hk.elim) ?aF ?aO ?aB ?aS ?aL ?_; (case aP => exact k166_mkM _ _ _ (⟨a1_0, (⟨a1_1, a1_2⟩ : S72), a1_3⟩ : S166)); (case aB => exact (by repeat (first | (with_reducible first | exact HB.out | apply lA | apply lN | apply lD | refine lS ?_ GE167.out) | exact HB.out))); (case aF => exact (fun k_ hk => Kd.freshB (g := gb167) (o := .cells #[.string a1_0, .string a1_1, .int .i64 a1_2, .int .i64 a1_3] 166 (0, 0)) (by (with_reducible repeat first | apply bN | apply bD | apply bA); exact BK167.out) k_ hk)); (case aO => exact (by (with_reducible repeat (first | apply zrA | apply zrN | apply zrD)); exact HO_5.out)); (case aS => exact (below_size (by repeat (first | (with_reducible first | exact HB.out | apply lA | apply lN | apply lD | refine lS ?_ GE167.out) | exact HB.out)))); (case aL => have := LMc56.out; omega); intro v169 w58 ho hb hg hat; rw [← Ny168.out] at ho; have n0_ := mkA (blk_grown (g := gb167) (o := .cells #[.string a1_0, .string a1_1, .int .i64 a1_2, .int .i64 a1_3] 166 (0, 0)) (by (with_reducible repeat first | apply bN | apply bD | apply bA); exact BK167.out) hg (Kd.R_away HO_5.out (fun _ hk => hk))); have n1_ := mkA (hb); have n2_ := mkA (ho); clear BK167; clear HB; clear HO_5; have BK167 := n0_; have HB := n1_; have HO170 := n2_; clear n0_ n1_ n2_; clear ho hb hg hat))
      go_ret
      exact ⟨_, by first | rfl | (simp [errW_none, errW_some] <;> rfl) | (simp [*, errW_none, errW_some] <;> rfl), by (with_reducible repeat (first | apply zrA | apply zrN | apply zrD)); exact zrM HO170.out (fun _ hk => trivial), by repeat (first | (with_reducible first | exact HB.out | apply lA | apply lN | apply lD | refine lS ?_ GE167.out) | exact HB.out)⟩
     ·rw [if_neg c56] at H
      exact absurd H (by simp)
end Go.Proofs.Ytohhlkabejangaa.POf
