import Derived.Test.YtohhlkabejangaaUPOfx0
import Derived.Test.YtohhlkabejangaaUPOfx5
import Derived.Test.YtohhlkabejangaaUPOfx6
-- halved
namespace Go.Proofs.Ytohhlkabejangaa.POf
open Go.Proofs.Ytohhlkabejangaa.Hand
open Go.RowKit Go.Proofs.YtohhlkabejangaaW.PrintWords Go.Proofs.YtohhlkabejangaaW.PrintLast Go.Proofs.YtohhlkabejangaaW.PrintMore
open Go.Proofs.YtohhlkabejangaaW.PrintWords renaming blk_drewN → bN, blk_drew → bD, blk_alloc → bA, below_alloc → lA, pw_below_drewN → lN, below_drew1 → lD, below_set → lS, blk_cell → bC, blk_frozen → bF, blk_far → bR, blk_put → bP, blk_below → bB
open Go.Proofs.YtohhlkabejangaaW.PrintWords.Aside0 renaming mk → mkA
open List renaming setIfInBounds_toArray → zsI, set_cons_zero → zs0, set_cons_succ → zs1
open Go.Proofs.YtohhlkabejangaaW.PrintWords renaming below_step → zbS
attribute [local go_sem] max2_int min2_int max_two min_two max_three min_three max_four min_four
set_option linter.unusedVariables false
set_option linter.unusedSimpArgs false
def weighlocklaw24_entry.f (k : Nat) (l0 : List (S166)) (a1_0 : Int) (a1_1 : Int) (a1_2 : ByteArray) (a1_3 : ByteArray) (a1_4 : Int) (a1_5 : Int) (a1_6 : ByteArray) : Option (Int × ByteArray × Int) := if a1_0 = 0 then ((weighlockref24_May.f k a1_2 a1_3 a1_4 a1_1).bind fun t151 => (if t151 = true then ((weighlockref24_Room.f k l0 a1_2).bind fun t152 => (if t152 = true then ((weighlockref24_Entry.f k a1_2 a1_3 a1_4 a1_1).bind fun bt153 => (some (bt153.1, bt153.2, 0))) else (some (0, (⟨#[]⟩ : ByteArray), 5)))) else (some (0, (⟨#[]⟩ : ByteArray), 1)))) else (if a1_0 = 1 then ((weighlockref22_Name.f k a1_3).bind fun t155 => (if t155 = true then ((some (([((a1_3.size : Int)) % 256] : List Int) : List Int)).bind fun y156 => (if (strOfNums y156).size + a1_3.size ≤ 9223372036854775807 then (some (2, (strOfNums y156) ++ a1_3, 0)) else (none))) else (some (0, (⟨#[]⟩ : ByteArray), 1)))) else (some (a1_5, a1_6, 0)))
theorem weighlocklaw24_entry.mono : ∀ a0 a1 a2 a3 a4 a5 a6 a7 k, LeO (weighlocklaw24_entry.f k a0 a1 a2 a3 a4 a5 a6 a7) (weighlocklaw24_entry.f (k + 1) a0 a1 a2 a3 a4 a5 a6 a7) := by
 intro a0 a1 a2 a3 a4 a5 a6 a7 k
 unfold weighlocklaw24_entry.f
 repeat' first
   | (with_reducible exact weighlockref22_Name.mono _ _)
   | (with_reducible exact weighlockref24_Entry.mono _ _ _ _ _)
   | (with_reducible exact weighlockref24_May.mono _ _ _ _ _)
   | (with_reducible exact weighlockref24_Room.mono _ _ _)
   | (with_reducible exact LeO.refl _)
   | (with_reducible exact LeO.none _)
   | (with_reducible refine LeO.ite ?_ ?_)
   | (with_reducible refine LeO.bind ?_ (fun _ => ?_))
   | exact weighlockref22_Name.mono _ _
   | exact weighlockref24_Entry.mono _ _ _ _ _
   | exact weighlockref24_May.mono _ _ _ _ _
   | exact weighlockref24_Room.mono _ _ _
   | exact LeO.none _
   | refine LeO.ite ?_ ?_
   | refine LeO.bind ?_ (fun _ => ?_)
set_option maxHeartbeats 8000000 in
set_option maxRecDepth 100000 in
theorem weighlocklaw24_entry.calls (k : Nat) (A0 : Option Addr) (c0 : Nat) (l0 : List (S166)) (a1_0 : Int) (a1_1 : Int) (a1_2 : ByteArray) (a1_3 : ByteArray) (a1_4 : Int) (a1_5 : Int) (a1_6 : ByteArray) (r1 : Int) (r2 : ByteArray) (r3 : Int) (w : World) (hr0 : Kd.C k166 w A0 l0.length l0) (hc0 : l0.length ≤ c0) (h : weighlocklaw24_entry.f k l0 a1_0 a1_1 a1_2 a1_3 a1_4 a1_5 a1_6 = some (r1, r2, r3)) :
  Calls Try.prog 50 #[.slice A0 l0.length c0, .agg #[.int .i64 a1_0, .int .i64 a1_1, .string a1_2, .string a1_3, .int .i64 a1_4, .int .i64 a1_5, .string a1_6]] w fun e w' => e = .returned (.agg #[.int .i64 r1, .string r2, .int .i64 r3]) ∧ Below w.heap.size w w' := by
 have hu81 := Try.underlying81
 have hu92 := Try.underlying92
 have hu72 := Try.underlying72
 have hu166 := Try.underlying166
 have hu79 := Try.underlying79
 have HR0 := mkA hr0
 have HC0 := mkA hc0
 clear hr0 hc0
 have HB := mkA (Below.refl w.heap.size w)
 have H : (if a1_0 = 0 then ((weighlockref24_May.f k a1_2 a1_3 a1_4 a1_1).bind fun t151 => (if t151 = true then ((weighlockref24_Room.f k l0 a1_2).bind fun t152 => (if t152 = true then ((weighlockref24_Entry.f k a1_2 a1_3 a1_4 a1_1).bind fun bt153 => (some (bt153.1, bt153.2, 0))) else (some (0, (⟨#[]⟩ : ByteArray), 5)))) else (some (0, (⟨#[]⟩ : ByteArray), 1)))) else (if a1_0 = 1 then ((weighlockref22_Name.f k a1_3).bind fun t155 => (if t155 = true then ((some (([((a1_3.size : Int)) % 256] : List Int) : List Int)).bind fun y156 => (if (strOfNums y156).size + a1_3.size ≤ 9223372036854775807 then (some (2, (strOfNums y156) ++ a1_3, 0)) else (none))) else (some (0, (⟨#[]⟩ : ByteArray), 1)))) else (some (a1_5, a1_6, 0)))) = some (r1, r2, r3) := h
 clear h
 by_cases c3 : a1_0 = 0
 ·rw [if_pos c3] at H
  have c3b0 : (a1_0 == 0) = true := beq_iff_eq.mpr c3
  have c3b1 : (a1_0 != 0) = false := bne_eq_false_iff_eq.mpr c3
  clear c3
  replace H := Option.bind_eq_some_iff.mp H
  obtain ⟨t151, A40, H⟩ := H
  replace H : (if t151 = true then ((weighlockref24_Room.f k l0 a1_2).bind fun t152 => (if t152 = true then ((weighlockref24_Entry.f k a1_2 a1_3 a1_4 a1_1).bind fun bt153 => (some (bt153.1, bt153.2, 0))) else (some (0, (⟨#[]⟩ : ByteArray), 5)))) else (some (0, (⟨#[]⟩ : ByteArray), 1))) = some (r1, r2, r3) := H
  have A4 := mkA A40
  clear A40
  by_cases c5 : t151 = true
  ·subst c5
   have H1 : ((weighlockref24_Room.f k l0 a1_2).bind fun t152 => (if t152 = true then ((weighlockref24_Entry.f k a1_2 a1_3 a1_4 a1_1).bind fun bt153 => (some (bt153.1, bt153.2, 0))) else (some (0, (⟨#[]⟩ : ByteArray), 5)))) = some (r1, r2, r3) := by rw [if_pos rfl] at H; exact H
   clear H
   have H := H1
   clear H1
   replace H := Option.bind_eq_some_iff.mp H
   obtain ⟨t152, A60, H⟩ := H
   replace H : (if t152 = true then ((weighlockref24_Entry.f k a1_2 a1_3 a1_4 a1_1).bind fun bt153 => (some (bt153.1, bt153.2, 0))) else (some (0, (⟨#[]⟩ : ByteArray), 5))) = some (r1, r2, r3) := H
   have A6 := mkA A60
   clear A60
   by_cases c7 : t152 = true
   ·subst c7
    have H1 : ((weighlockref24_Entry.f k a1_2 a1_3 a1_4 a1_1).bind fun bt153 => (some (bt153.1, bt153.2, 0))) = some (r1, r2, r3) := by rw [if_pos rfl] at H; exact H
    clear H
    have H := H1
    clear H1
    replace H := Option.bind_eq_some_iff.mp H
    obtain ⟨⟨t153, t154⟩, A80, H⟩ := H
    replace H : (some (t153, t154, 0)) = some (r1, r2, r3) := H
    have A8 := mkA A80
    clear A80
    simp only [Option.some.injEq, Prod.mk.injEq] at H
    obtain ⟨rfl, rfl, rfl⟩ := H
    go_enter Try.func50, Try.ntmps50
    go_wp2_with (first | ((with_reducible refine gate_dst (N := 3) rfl ?_); refine box_event ?hg (N := 3) ?hd (cs := #[.int .i64 a1_0, .int .i64 a1_1, .string a1_2, .string a1_3, .int .i64 a1_4, .int .i64 a1_5, .string a1_6]) (t := 81) ?hr ?_; (case hd => rfl); (case hg => rfl); (case hr => first | (go_simp; done) | (go_simp; rfl)); intro gb148 hg w9 hbox hb; have n0_ := mkA (zbS (by repeat (first | (with_reducible first | exact HB.out | apply lA | apply lN | apply lD) | exact HB.out)) hb); have n1_ := mkA (hbox); have n2_ := mkA ((by rw [hg]; exact (below_size (by repeat (first | (with_reducible first | exact HB.out | apply lA | apply lN | apply lD) | exact HB.out))) : w.heap.size ≤ gb148)); have n3_ := mkA ((by rw [hg]; exact (below_size (by repeat (first | (with_reducible first | exact HB.out | apply lA | apply lN | apply lD) | exact HB.out))) : w.heap.size ≤ gb148)); clear HB; have HB := n0_; have BK148 := n1_; have GW148 := n2_; have GE148 := n3_; clear n0_ n1_ n2_ n3_; clear hb hbox hg) | ((with_reducible refine gate_dst (N := 4) rfl ?_); refine box_event ?hg (N := 4) ?hd (cs := #[.int .i64 0, .string (⟨#[]⟩ : ByteArray), .int .i64 0]) (t := 92) ?hr ?_; (case hd => rfl); (case hg => rfl); (case hr => first | (go_simp; done) | (go_simp; rfl)); intro gb149 hg w10 hbox hb; have n0_ := mkA (bB (g := gb148) (o := .cells #[.int .i64 a1_0, .int .i64 a1_1, .string a1_2, .string a1_3, .int .i64 a1_4, .int .i64 a1_5, .string a1_6] 81 (0, 0)) (by (with_reducible repeat first | apply bN | apply bD | apply bA); exact BK148.out) hb); have n1_ := mkA (zbS (by repeat (first | (with_reducible first | exact HB.out | apply lA | apply lN | apply lD | refine lS ?_ GE148.out) | exact HB.out)) hb); have n2_ := mkA (hbox); have n3_ := mkA ((by rw [hg]; exact (below_size (by repeat (first | (with_reducible first | exact HB.out | apply lA | apply lN | apply lD | refine lS ?_ GE148.out) | exact HB.out))) : w.heap.size ≤ gb149)); have n4_ := mkA ((by rw [hg]; exact (below_size (by repeat (first | (with_reducible first | exact HB.out | apply lA | apply lN | apply lD | refine lS ?_ GE148.out) | exact HB.out))) : w.heap.size ≤ gb149)); have n5_ := mkA ((by rw [hg]; exact Nat.ne_of_lt (blk_lt (g := gb148) (o := .cells #[.int .i64 a1_0, .int .i64 a1_1, .string a1_2, .string a1_3, .int .i64 a1_4, .int .i64 a1_5, .string a1_6] 81 (0, 0)) (by (with_reducible repeat first | apply bN | apply bD | apply bA); exact BK148.out)) : gb148 ≠ gb149)); have n6_ := mkA ((by rw [hg]; exact Nat.ne_of_gt (blk_lt (g := gb148) (o := .cells #[.int .i64 a1_0, .int .i64 a1_1, .string a1_2, .string a1_3, .int .i64 a1_4, .int .i64 a1_5, .string a1_6] 81 (0, 0)) (by (with_reducible repeat first | apply bN | apply bD | apply bA); exact BK148.out)) : gb149 ≠ gb148)); clear BK148; clear HB; have BK148 := n0_; have HB := n1_; have BK149 := n2_; have GW149 := n3_; have GE149 := n4_; have NB148_149 := n5_; have NB149_148 := n6_; clear n0_ n1_ n2_ n3_ n4_ n5_ n6_; clear hb hbox hg; have hnb11 := NB148_149.out; have hnc11 := NB149_148.out; have hcz12_0 : w10.cell? ⟨gb148, 0, none⟩ = some (.int .i64 a1_0) := (bC BK148.out 0).trans rfl; have hcz12_1 : w10.cell? ⟨gb148, 1, none⟩ = some (.int .i64 a1_1) := (bC BK148.out 1).trans rfl; have hcz12_2 : w10.cell? ⟨gb148, 2, none⟩ = some (.string a1_2) := (bC BK148.out 2).trans rfl; have hcz12_3 : w10.cell? ⟨gb148, 3, none⟩ = some (.string a1_3) := (bC BK148.out 3).trans rfl; have hcz12_4 : w10.cell? ⟨gb148, 4, none⟩ = some (.int .i64 a1_4) := (bC BK148.out 4).trans rfl; have hcz12_5 : w10.cell? ⟨gb148, 5, none⟩ = some (.int .i64 a1_5) := (bC BK148.out 5).trans rfl; have hcz12_6 : w10.cell? ⟨gb148, 6, none⟩ = some (.string a1_6) := (bC BK148.out 6).trans rfl; have hfz12_0 := bF BK148.out 0; have hfz12_1 := bF BK148.out 1; have hfz12_2 := bF BK148.out 2; have hfz12_3 := bF BK148.out 3; have hfz12_4 := bF BK148.out 4; have hfz12_5 := bF BK148.out 5; have hfz12_6 := bF BK148.out 6) | ((with_reducible refine gate_dst (N := 5) rfl ?_); refine box_event ?hg (N := 5) ?hd (cs := #[.string (⟨#[]⟩ : ByteArray), .string (⟨#[]⟩ : ByteArray), .int .i64 0, .int .i64 0]) (t := 166) ?hr ?_; (case hd => rfl); (case hg => rfl); (case hr => first | (go_simp; done) | (go_simp; rfl)); intro gb150 hg w13 hbox hb; have n0_ := mkA (bB (g := gb148) (o := .cells #[.int .i64 a1_0, .int .i64 a1_1, .string a1_2, .string a1_3, .int .i64 a1_4, .int .i64 a1_5, .string a1_6] 81 (0, 0)) (by (with_reducible repeat first | apply bN | apply bD | apply bA); exact BK148.out) hb); have n1_ := mkA (bB (g := gb149) (o := .cells #[.int .i64 0, .string (⟨#[]⟩ : ByteArray), .int .i64 0] 92 (0, 0)) (by (with_reducible repeat first | apply bN | apply bD | apply bA); exact BK149.out) hb); have n2_ := mkA (zbS (by repeat (first | (with_reducible first | exact HB.out | apply lA | apply lN | apply lD | refine lS ?_ GE148.out | refine lS ?_ GE149.out) | exact HB.out)) hb); have n3_ := mkA (hbox); have n4_ := mkA ((by rw [hg]; exact (below_size (by repeat (first | (with_reducible first | exact HB.out | apply lA | apply lN | apply lD | refine lS ?_ GE148.out | refine lS ?_ GE149.out) | exact HB.out))) : w.heap.size ≤ gb150)); have n5_ := mkA ((by rw [hg]; exact (below_size (by repeat (first | (with_reducible first | exact HB.out | apply lA | apply lN | apply lD | refine lS ?_ GE148.out | refine lS ?_ GE149.out) | exact HB.out))) : w.heap.size ≤ gb150)); have n6_ := mkA ((by rw [hg]; exact Nat.ne_of_lt (blk_lt (g := gb148) (o := .cells #[.int .i64 a1_0, .int .i64 a1_1, .string a1_2, .string a1_3, .int .i64 a1_4, .int .i64 a1_5, .string a1_6] 81 (0, 0)) (by (with_reducible repeat first | apply bN | apply bD | apply bA); exact BK148.out)) : gb148 ≠ gb150)); have n7_ := mkA ((by rw [hg]; exact Nat.ne_of_gt (blk_lt (g := gb148) (o := .cells #[.int .i64 a1_0, .int .i64 a1_1, .string a1_2, .string a1_3, .int .i64 a1_4, .int .i64 a1_5, .string a1_6] 81 (0, 0)) (by (with_reducible repeat first | apply bN | apply bD | apply bA); exact BK148.out)) : gb150 ≠ gb148)); have n8_ := mkA ((by rw [hg]; exact Nat.ne_of_lt (blk_lt (g := gb149) (o := .cells #[.int .i64 0, .string (⟨#[]⟩ : ByteArray), .int .i64 0] 92 (0, 0)) (by (with_reducible repeat first | apply bN | apply bD | apply bA); exact BK149.out)) : gb149 ≠ gb150)); have n9_ := mkA ((by rw [hg]; exact Nat.ne_of_gt (blk_lt (g := gb149) (o := .cells #[.int .i64 0, .string (⟨#[]⟩ : ByteArray), .int .i64 0] 92 (0, 0)) (by (with_reducible repeat first | apply bN | apply bD | apply bA); exact BK149.out)) : gb150 ≠ gb149)); clear BK148; clear BK149; clear HB; have BK148 := n0_; have BK149 := n1_; have HB := n2_; have BK150 := n3_; have GW150 := n4_; have GE150 := n5_; have NB148_150 := n6_; have NB150_148 := n7_; have NB149_150 := n8_; have NB150_149 := n9_; clear n0_ n1_ n2_ n3_ n4_ n5_ n6_ n7_ n8_ n9_; clear hb hbox hg; have hnb14 := NB150_148.out; have hnc14 := NB148_150.out; have hnb15 := NB150_149.out; have hnc15 := NB149_150.out; have hcz16_0 : w13.cell? ⟨gb150, 0, none⟩ = some (.string (⟨#[]⟩ : ByteArray)) := (bC BK150.out 0).trans rfl; have hcz16_1 : w13.cell? ⟨gb150, 1, none⟩ = some (.string (⟨#[]⟩ : ByteArray)) := (bC BK150.out 1).trans rfl; have hcz16_2 : w13.cell? ⟨gb150, 2, none⟩ = some (.int .i64 0) := (bC BK150.out 2).trans rfl; have hcz16_3 : w13.cell? ⟨gb150, 3, none⟩ = some (.int .i64 0) := (bC BK150.out 3).trans rfl; have hfz16_0 := bF BK150.out 0; have hfz16_1 := bF BK150.out 1; have hfz16_2 := bF BK150.out 2; have hfz16_3 := bF BK150.out 3) | ((with_reducible refine gate_callee (f := 100) rfl ?_); refine goesL_ (some 21) rfl rfl Try.func100 (by kernel_rfl) rfl #[.agg #[.string a1_2, .string a1_3, .int .i64 a1_4, .int .i64 a1_1]] rfl (by (try simp only [List.map_toArray, List.map_cons, List.map_nil]); first | done | rfl | (simp only [List.length_drop, List.length_take]; rfl)) ?_; (with_reducible refine (weighlockref24_May.calls k a1_2 a1_3 a1_4 a1_1 true _ A4.out).mono ?_); rintro e w17 ⟨rfl, hb⟩; refine ⟨_, rfl, ?_⟩; have n0_ := mkA (bB (g := gb148) (o := .cells #[.int .i64 a1_0, .int .i64 a1_1, .string a1_2, .string a1_3, .int .i64 a1_4, .int .i64 a1_5, .string a1_6] 81 (0, 0)) (by (with_reducible repeat first | apply bN | apply bD | apply bA); refine bR ?_ NB148_150.out _; (with_reducible repeat first | apply bN | apply bD | apply bA); refine bR ?_ NB148_150.out _; (with_reducible repeat first | apply bN | apply bD | apply bA); refine bR ?_ NB148_150.out _; (with_reducible repeat first | apply bN | apply bD | apply bA); refine bR ?_ NB148_150.out _; (with_reducible repeat first | apply bN | apply bD | apply bA); exact BK148.out) hb); have n1_ := mkA (bB (g := gb149) (o := .cells #[.int .i64 0, .string (⟨#[]⟩ : ByteArray), .int .i64 0] 92 (0, 0)) (by (with_reducible repeat first | apply bN | apply bD | apply bA); refine bR ?_ NB149_150.out _; (with_reducible repeat first | apply bN | apply bD | apply bA); refine bR ?_ NB149_150.out _; (with_reducible repeat first | apply bN | apply bD | apply bA); refine bR ?_ NB149_150.out _; (with_reducible repeat first | apply bN | apply bD | apply bA); refine bR ?_ NB149_150.out _; (with_reducible repeat first | apply bN | apply bD | apply bA); exact BK149.out) hb); have n2_ := mkA (bB (g := gb150) (o := .cells #[.string a1_2, .string a1_3, .int .i64 a1_4, .int .i64 a1_1] 166 (0, 0)) (by (with_reducible repeat first | apply bN | apply bD | apply bA); refine bP (cs := #[.string a1_2, .string a1_3, .int .i64 a1_4, .int .i64 0]) ?_ 3 _ rfl; (with_reducible repeat first | apply bN | apply bD | apply bA); refine bP (cs := #[.string a1_2, .string a1_3, .int .i64 0, .int .i64 0]) ?_ 2 _ rfl; (with_reducible repeat first | apply bN | apply bD | apply bA); refine bP (cs := #[.string a1_2, .string (⟨#[]⟩ : ByteArray), .int .i64 0, .int .i64 0]) ?_ 1 _ rfl; (with_reducible repeat first | apply bN | apply bD | apply bA); refine bP (cs := #[.string (⟨#[]⟩ : ByteArray), .string (⟨#[]⟩ : ByteArray), .int .i64 0, .int .i64 0]) ?_ 0 _ rfl; (with_reducible repeat first | apply bN | apply bD | apply bA); exact BK150.out) hb); have n3_ := mkA (zbS (by repeat (first | (with_reducible first | exact HB.out | apply lA | apply lN | apply lD | refine lS ?_ GE148.out | refine lS ?_ GE149.out | refine lS ?_ GE150.out) | exact HB.out)) hb); clear BK148; clear BK149; clear BK150; clear HB; have BK148 := n0_; have BK149 := n1_; have BK150 := n2_; have HB := n3_; clear n0_ n1_ n2_ n3_; (try clear hb); (try clear hb2); (try clear hk); (try clear hi); have hcz18_0 : w17.cell? ⟨gb148, 0, none⟩ = some (.int .i64 a1_0) := (bC BK148.out 0).trans rfl; have hcz18_1 : w17.cell? ⟨gb148, 1, none⟩ = some (.int .i64 a1_1) := (bC BK148.out 1).trans rfl; have hcz18_2 : w17.cell? ⟨gb148, 2, none⟩ = some (.string a1_2) := (bC BK148.out 2).trans rfl; have hcz18_3 : w17.cell? ⟨gb148, 3, none⟩ = some (.string a1_3) := (bC BK148.out 3).trans rfl; have hcz18_4 : w17.cell? ⟨gb148, 4, none⟩ = some (.int .i64 a1_4) := (bC BK148.out 4).trans rfl; have hcz18_5 : w17.cell? ⟨gb148, 5, none⟩ = some (.int .i64 a1_5) := (bC BK148.out 5).trans rfl; have hcz18_6 : w17.cell? ⟨gb148, 6, none⟩ = some (.string a1_6) := (bC BK148.out 6).trans rfl; have hfz18_0 := bF BK148.out 0; have hfz18_1 := bF BK148.out 1; have hfz18_2 := bF BK148.out 2; have hfz18_3 := bF BK148.out 3; have hfz18_4 := bF BK148.out 4; have hfz18_5 := bF BK148.out 5; have hfz18_6 := bF BK148.out 6) | ((with_reducible refine gate_callee (f := 101) rfl ?_); refine goesL_ (some 28) rfl rfl Try.func101 (by kernel_rfl) rfl #[.slice A0 l0.length c0, .string a1_2] rfl (by (try simp only [List.map_toArray, List.map_cons, List.map_nil]); first | done | rfl | (simp only [List.length_drop, List.length_take]; rfl)) ?_; (with_reducible refine (weighlockref24_Room.calls k _ _ l0 a1_2 true _ ?side1 ?side2 A6.out).mono ?_); (case side1 => repeat (first | exact (Kd.C_below HR0.out HB.out) | (with_reducible refine Kd.C_alloc ?_ _) | (with_reducible refine Kd.C_drewN ?_ _) | (with_reducible refine Kd.C_drew ?_))); (case side2 => exact HC0.out); rintro e w19 ⟨rfl, hb⟩; refine ⟨_, rfl, ?_⟩; have n0_ := mkA (bB (g := gb148) (o := .cells #[.int .i64 a1_0, .int .i64 a1_1, .string a1_2, .string a1_3, .int .i64 a1_4, .int .i64 a1_5, .string a1_6] 81 (0, 0)) (by (with_reducible repeat first | apply bN | apply bD | apply bA); exact BK148.out) hb); have n1_ := mkA (bB (g := gb149) (o := .cells #[.int .i64 0, .string (⟨#[]⟩ : ByteArray), .int .i64 0] 92 (0, 0)) (by (with_reducible repeat first | apply bN | apply bD | apply bA); exact BK149.out) hb); have n2_ := mkA (bB (g := gb150) (o := .cells #[.string a1_2, .string a1_3, .int .i64 a1_4, .int .i64 a1_1] 166 (0, 0)) (by (with_reducible repeat first | apply bN | apply bD | apply bA); exact BK150.out) hb); have n3_ := mkA (zbS (by repeat (first | (with_reducible first | exact HB.out | apply lA | apply lN | apply lD | refine lS ?_ GE148.out | refine lS ?_ GE149.out | refine lS ?_ GE150.out) | exact HB.out)) hb); clear BK148; clear BK149; clear BK150; clear HB; have BK148 := n0_; have BK149 := n1_; have BK150 := n2_; have HB := n3_; clear n0_ n1_ n2_ n3_; (try clear hb); (try clear hb2); (try clear hk); (try clear hi); have hcz20_0 : w19.cell? ⟨gb150, 0, none⟩ = some (.string a1_2) := (bC BK150.out 0).trans rfl; have hcz20_1 : w19.cell? ⟨gb150, 1, none⟩ = some (.string a1_3) := (bC BK150.out 1).trans rfl; have hcz20_2 : w19.cell? ⟨gb150, 2, none⟩ = some (.int .i64 a1_4) := (bC BK150.out 2).trans rfl; have hcz20_3 : w19.cell? ⟨gb150, 3, none⟩ = some (.int .i64 a1_1) := (bC BK150.out 3).trans rfl; have hfz20_0 := bF BK150.out 0; have hfz20_1 := bF BK150.out 1; have hfz20_2 := bF BK150.out 2; have hfz20_3 := bF BK150.out 3) | ((with_reducible refine gate_callee (f := 102) rfl ?_); refine goesL_ (some 32) rfl rfl Try.func102 (by kernel_rfl) rfl #[.agg #[.string a1_2, .string a1_3, .int .i64 a1_4, .int .i64 a1_1]] rfl (by (try simp only [List.map_toArray, List.map_cons, List.map_nil]); first | done | rfl | (simp only [List.length_drop, List.length_take]; rfl)) ?_; (with_reducible refine (weighlockref24_Entry.calls k a1_2 a1_3 a1_4 a1_1 t153 t154 _ A8.out).mono ?_); rintro e w21 ⟨rfl, hb⟩; refine ⟨_, rfl, ?_⟩; have n0_ := mkA (bB (g := gb148) (o := .cells #[.int .i64 a1_0, .int .i64 a1_1, .string a1_2, .string a1_3, .int .i64 a1_4, .int .i64 a1_5, .string a1_6] 81 (0, 0)) (by (with_reducible repeat first | apply bN | apply bD | apply bA); exact BK148.out) hb); have n1_ := mkA (bB (g := gb149) (o := .cells #[.int .i64 0, .string (⟨#[]⟩ : ByteArray), .int .i64 0] 92 (0, 0)) (by (with_reducible repeat first | apply bN | apply bD | apply bA); exact BK149.out) hb); have n2_ := mkA (bB (g := gb150) (o := .cells #[.string a1_2, .string a1_3, .int .i64 a1_4, .int .i64 a1_1] 166 (0, 0)) (by (with_reducible repeat first | apply bN | apply bD | apply bA); exact BK150.out) hb); have n3_ := mkA (zbS (by repeat (first | (with_reducible first | exact HB.out | apply lA | apply lN | apply lD | refine lS ?_ GE148.out | refine lS ?_ GE149.out | refine lS ?_ GE150.out) | exact HB.out)) hb); clear BK148; clear BK149; clear BK150; clear HB; have BK148 := n0_; have BK149 := n1_; have BK150 := n2_; have HB := n3_; clear n0_ n1_ n2_ n3_; (try clear hb); (try clear hb2); (try clear hk); (try clear hi); have hcz22_0 : w21.cell? ⟨gb149, 0, none⟩ = some (.int .i64 0) := (bC BK149.out 0).trans rfl; have hcz22_1 : w21.cell? ⟨gb149, 1, none⟩ = some (.string (⟨#[]⟩ : ByteArray)) := (bC BK149.out 1).trans rfl; have hcz22_2 : w21.cell? ⟨gb149, 2, none⟩ = some (.int .i64 0) := (bC BK149.out 2).trans rfl; have hfz22_0 := bF BK149.out 0; have hfz22_1 := bF BK149.out 1; have hfz22_2 := bF BK149.out 2))
    refine bodyPost_ret (results_cell_row rfl _ _ gb149 92 #[.int .i64 t153, .string t154, .int .i64 0] (0, 0) _ rfl (by (with_reducible repeat first | apply bN | apply bD | apply bA); refine bP (cs := #[.int .i64 t153, .string t154, .int .i64 0]) ?_ 2 _ rfl; (with_reducible repeat first | apply bN | apply bD | apply bA); refine bP (cs := #[.int .i64 t153, .string (⟨#[]⟩ : ByteArray), .int .i64 0]) ?_ 1 _ rfl; (with_reducible repeat first | apply bN | apply bD | apply bA); refine bP (cs := #[.int .i64 0, .string (⟨#[]⟩ : ByteArray), .int .i64 0]) ?_ 0 _ rfl; (with_reducible repeat first | apply bN | apply bD | apply bA); exact BK149.out) Try.underlying92 rfl (by kernel_rfl)) rfl ?_
    exact ⟨by first | rfl | (simp [errW_none, errW_some] <;> rfl) | (simp [*, errW_none, errW_some] <;> rfl), by repeat (first | (with_reducible first | exact HB.out | apply lA | apply lN | apply lD | refine lS ?_ GE148.out | refine lS ?_ GE149.out | refine lS ?_ GE150.out) | exact HB.out)⟩
   ·replace c7 := Bool.eq_false_iff.mpr c7
    subst c7
    have H1 : (some (0, (⟨#[]⟩ : ByteArray), 5)) = some (r1, r2, r3) := by rw [if_neg (show ¬ (false = true) by decide)] at H; exact H
    clear H
    have H := H1
    clear H1
    simp only [Option.some.injEq, Prod.mk.injEq] at H
    obtain ⟨rfl, rfl, rfl⟩ := H
    go_enter Try.func50, Try.ntmps50
    go_wp2_with (first | ((with_reducible refine gate_dst (N := 3) rfl ?_); refine box_event ?hg (N := 3) ?hd (cs := #[.int .i64 a1_0, .int .i64 a1_1, .string a1_2, .string a1_3, .int .i64 a1_4, .int .i64 a1_5, .string a1_6]) (t := 81) ?hr ?_; (case hd => rfl); (case hg => rfl); (case hr => first | (go_simp; done) | (go_simp; rfl)); intro gb148 hg w23 hbox hb; have n0_ := mkA (zbS (by repeat (first | (with_reducible first | exact HB.out | apply lA | apply lN | apply lD) | exact HB.out)) hb); have n1_ := mkA (hbox); have n2_ := mkA ((by rw [hg]; exact (below_size (by repeat (first | (with_reducible first | exact HB.out | apply lA | apply lN | apply lD) | exact HB.out))) : w.heap.size ≤ gb148)); have n3_ := mkA ((by rw [hg]; exact (below_size (by repeat (first | (with_reducible first | exact HB.out | apply lA | apply lN | apply lD) | exact HB.out))) : w.heap.size ≤ gb148)); clear HB; have HB := n0_; have BK148 := n1_; have GW148 := n2_; have GE148 := n3_; clear n0_ n1_ n2_ n3_; clear hb hbox hg) | ((with_reducible refine gate_dst (N := 4) rfl ?_); refine box_event ?hg (N := 4) ?hd (cs := #[.int .i64 0, .string (⟨#[]⟩ : ByteArray), .int .i64 0]) (t := 92) ?hr ?_; (case hd => rfl); (case hg => rfl); (case hr => first | (go_simp; done) | (go_simp; rfl)); intro gb149 hg w24 hbox hb; have n0_ := mkA (bB (g := gb148) (o := .cells #[.int .i64 a1_0, .int .i64 a1_1, .string a1_2, .string a1_3, .int .i64 a1_4, .int .i64 a1_5, .string a1_6] 81 (0, 0)) (by (with_reducible repeat first | apply bN | apply bD | apply bA); exact BK148.out) hb); have n1_ := mkA (zbS (by repeat (first | (with_reducible first | exact HB.out | apply lA | apply lN | apply lD | refine lS ?_ GE148.out) | exact HB.out)) hb); have n2_ := mkA (hbox); have n3_ := mkA ((by rw [hg]; exact (below_size (by repeat (first | (with_reducible first | exact HB.out | apply lA | apply lN | apply lD | refine lS ?_ GE148.out) | exact HB.out))) : w.heap.size ≤ gb149)); have n4_ := mkA ((by rw [hg]; exact (below_size (by repeat (first | (with_reducible first | exact HB.out | apply lA | apply lN | apply lD | refine lS ?_ GE148.out) | exact HB.out))) : w.heap.size ≤ gb149)); have n5_ := mkA ((by rw [hg]; exact Nat.ne_of_lt (blk_lt (g := gb148) (o := .cells #[.int .i64 a1_0, .int .i64 a1_1, .string a1_2, .string a1_3, .int .i64 a1_4, .int .i64 a1_5, .string a1_6] 81 (0, 0)) (by (with_reducible repeat first | apply bN | apply bD | apply bA); exact BK148.out)) : gb148 ≠ gb149)); have n6_ := mkA ((by rw [hg]; exact Nat.ne_of_gt (blk_lt (g := gb148) (o := .cells #[.int .i64 a1_0, .int .i64 a1_1, .string a1_2, .string a1_3, .int .i64 a1_4, .int .i64 a1_5, .string a1_6] 81 (0, 0)) (by (with_reducible repeat first | apply bN | apply bD | apply bA); exact BK148.out)) : gb149 ≠ gb148)); clear BK148; clear HB; have BK148 := n0_; have HB := n1_; have BK149 := n2_; have GW149 := n3_; have GE149 := n4_; have NB148_149 := n5_; have NB149_148 := n6_; clear n0_ n1_ n2_ n3_ n4_ n5_ n6_; clear hb hbox hg; have hnb25 := NB148_149.out; have hnc25 := NB149_148.out; have hcz26_0 : w24.cell? ⟨gb148, 0, none⟩ = some (.int .i64 a1_0) := (bC BK148.out 0).trans rfl; have hcz26_1 : w24.cell? ⟨gb148, 1, none⟩ = some (.int .i64 a1_1) := (bC BK148.out 1).trans rfl; have hcz26_2 : w24.cell? ⟨gb148, 2, none⟩ = some (.string a1_2) := (bC BK148.out 2).trans rfl; have hcz26_3 : w24.cell? ⟨gb148, 3, none⟩ = some (.string a1_3) := (bC BK148.out 3).trans rfl; have hcz26_4 : w24.cell? ⟨gb148, 4, none⟩ = some (.int .i64 a1_4) := (bC BK148.out 4).trans rfl; have hcz26_5 : w24.cell? ⟨gb148, 5, none⟩ = some (.int .i64 a1_5) := (bC BK148.out 5).trans rfl; have hcz26_6 : w24.cell? ⟨gb148, 6, none⟩ = some (.string a1_6) := (bC BK148.out 6).trans rfl; have hfz26_0 := bF BK148.out 0; have hfz26_1 := bF BK148.out 1; have hfz26_2 := bF BK148.out 2; have hfz26_3 := bF BK148.out 3; have hfz26_4 := bF BK148.out 4; have hfz26_5 := bF BK148.out 5; have hfz26_6 := bF BK148.out 6) | ((with_reducible refine gate_dst (N := 5) rfl ?_); refine box_event ?hg (N := 5) ?hd (cs := #[.string (⟨#[]⟩ : ByteArray), .string (⟨#[]⟩ : ByteArray), .int .i64 0, .int .i64 0]) (t := 166) ?hr ?_; (case hd => rfl); (case hg => rfl); (case hr => first | (go_simp; done) | (go_simp; rfl)); intro gb150 hg w27 hbox hb; have n0_ := mkA (bB (g := gb148) (o := .cells #[.int .i64 a1_0, .int .i64 a1_1, .string a1_2, .string a1_3, .int .i64 a1_4, .int .i64 a1_5, .string a1_6] 81 (0, 0)) (by (with_reducible repeat first | apply bN | apply bD | apply bA); exact BK148.out) hb); have n1_ := mkA (bB (g := gb149) (o := .cells #[.int .i64 0, .string (⟨#[]⟩ : ByteArray), .int .i64 0] 92 (0, 0)) (by (with_reducible repeat first | apply bN | apply bD | apply bA); exact BK149.out) hb); have n2_ := mkA (zbS (by repeat (first | (with_reducible first | exact HB.out | apply lA | apply lN | apply lD | refine lS ?_ GE148.out | refine lS ?_ GE149.out) | exact HB.out)) hb); have n3_ := mkA (hbox); have n4_ := mkA ((by rw [hg]; exact (below_size (by repeat (first | (with_reducible first | exact HB.out | apply lA | apply lN | apply lD | refine lS ?_ GE148.out | refine lS ?_ GE149.out) | exact HB.out))) : w.heap.size ≤ gb150)); have n5_ := mkA ((by rw [hg]; exact (below_size (by repeat (first | (with_reducible first | exact HB.out | apply lA | apply lN | apply lD | refine lS ?_ GE148.out | refine lS ?_ GE149.out) | exact HB.out))) : w.heap.size ≤ gb150)); have n6_ := mkA ((by rw [hg]; exact Nat.ne_of_lt (blk_lt (g := gb148) (o := .cells #[.int .i64 a1_0, .int .i64 a1_1, .string a1_2, .string a1_3, .int .i64 a1_4, .int .i64 a1_5, .string a1_6] 81 (0, 0)) (by (with_reducible repeat first | apply bN | apply bD | apply bA); exact BK148.out)) : gb148 ≠ gb150)); have n7_ := mkA ((by rw [hg]; exact Nat.ne_of_gt (blk_lt (g := gb148) (o := .cells #[.int .i64 a1_0, .int .i64 a1_1, .string a1_2, .string a1_3, .int .i64 a1_4, .int .i64 a1_5, .string a1_6] 81 (0, 0)) (by (with_reducible repeat first | apply bN | apply bD | apply bA); exact BK148.out)) : gb150 ≠ gb148)); have n8_ := mkA ((by rw [hg]; exact Nat.ne_of_lt (blk_lt (g := gb149) (o := .cells #[.int .i64 0, .string (⟨#[]⟩ : ByteArray), .int .i64 0] 92 (0, 0)) (by (with_reducible repeat first | apply bN | apply bD | apply bA); exact BK149.out)) : gb149 ≠ gb150)); have n9_ := mkA ((by rw [hg]; exact Nat.ne_of_gt (blk_lt (g := gb149) (o := .cells #[.int .i64 0, .string (⟨#[]⟩ : ByteArray), .int .i64 0] 92 (0, 0)) (by (with_reducible repeat first | apply bN | apply bD | apply bA); exact BK149.out)) : gb150 ≠ gb149)); clear BK148; clear BK149; clear HB; have BK148 := n0_; have BK149 := n1_; have HB := n2_; have BK150 := n3_; have GW150 := n4_; have GE150 := n5_; have NB148_150 := n6_; have NB150_148 := n7_; have NB149_150 := n8_; have NB150_149 := n9_; clear n0_ n1_ n2_ n3_ n4_ n5_ n6_ n7_ n8_ n9_; clear hb hbox hg; have hnb28 := NB150_148.out; have hnc28 := NB148_150.out; have hnb29 := NB150_149.out; have hnc29 := NB149_150.out; have hcz30_0 : w27.cell? ⟨gb150, 0, none⟩ = some (.string (⟨#[]⟩ : ByteArray)) := (bC BK150.out 0).trans rfl; have hcz30_1 : w27.cell? ⟨gb150, 1, none⟩ = some (.string (⟨#[]⟩ : ByteArray)) := (bC BK150.out 1).trans rfl; have hcz30_2 : w27.cell? ⟨gb150, 2, none⟩ = some (.int .i64 0) := (bC BK150.out 2).trans rfl; have hcz30_3 : w27.cell? ⟨gb150, 3, none⟩ = some (.int .i64 0) := (bC BK150.out 3).trans rfl; have hfz30_0 := bF BK150.out 0; have hfz30_1 := bF BK150.out 1; have hfz30_2 := bF BK150.out 2; have hfz30_3 := bF BK150.out 3) | ((with_reducible refine gate_callee (f := 100) rfl ?_); refine goesL_ (some 21) rfl rfl Try.func100 (by kernel_rfl) rfl #[.agg #[.string a1_2, .string a1_3, .int .i64 a1_4, .int .i64 a1_1]] rfl (by (try simp only [List.map_toArray, List.map_cons, List.map_nil]); first | done | rfl | (simp only [List.length_drop, List.length_take]; rfl)) ?_; (with_reducible refine (weighlockref24_May.calls k a1_2 a1_3 a1_4 a1_1 true _ A4.out).mono ?_); rintro e w31 ⟨rfl, hb⟩; refine ⟨_, rfl, ?_⟩; have n0_ := mkA (bB (g := gb148) (o := .cells #[.int .i64 a1_0, .int .i64 a1_1, .string a1_2, .string a1_3, .int .i64 a1_4, .int .i64 a1_5, .string a1_6] 81 (0, 0)) (by (with_reducible repeat first | apply bN | apply bD | apply bA); refine bR ?_ NB148_150.out _; (with_reducible repeat first | apply bN | apply bD | apply bA); refine bR ?_ NB148_150.out _; (with_reducible repeat first | apply bN | apply bD | apply bA); refine bR ?_ NB148_150.out _; (with_reducible repeat first | apply bN | apply bD | apply bA); refine bR ?_ NB148_150.out _; (with_reducible repeat first | apply bN | apply bD | apply bA); exact BK148.out) hb); have n1_ := mkA (bB (g := gb149) (o := .cells #[.int .i64 0, .string (⟨#[]⟩ : ByteArray), .int .i64 0] 92 (0, 0)) (by (with_reducible repeat first | apply bN | apply bD | apply bA); refine bR ?_ NB149_150.out _; (with_reducible repeat first | apply bN | apply bD | apply bA); refine bR ?_ NB149_150.out _; (with_reducible repeat first | apply bN | apply bD | apply bA); refine bR ?_ NB149_150.out _; (with_reducible repeat first | apply bN | apply bD | apply bA); refine bR ?_ NB149_150.out _; (with_reducible repeat first | apply bN | apply bD | apply bA); exact BK149.out) hb); have n2_ := mkA (bB (g := gb150) (o := .cells #[.string a1_2, .string a1_3, .int .i64 a1_4, .int .i64 a1_1] 166 (0, 0)) (by (with_reducible repeat first | apply bN | apply bD | apply bA); refine bP (cs := #[.string a1_2, .string a1_3, .int .i64 a1_4, .int .i64 0]) ?_ 3 _ rfl; (with_reducible repeat first | apply bN | apply bD | apply bA); refine bP (cs := #[.string a1_2, .string a1_3, .int .i64 0, .int .i64 0]) ?_ 2 _ rfl; (with_reducible repeat first | apply bN | apply bD | apply bA); refine bP (cs := #[.string a1_2, .string (⟨#[]⟩ : ByteArray), .int .i64 0, .int .i64 0]) ?_ 1 _ rfl; (with_reducible repeat first | apply bN | apply bD | apply bA); refine bP (cs := #[.string (⟨#[]⟩ : ByteArray), .string (⟨#[]⟩ : ByteArray), .int .i64 0, .int .i64 0]) ?_ 0 _ rfl; (with_reducible repeat first | apply bN | apply bD | apply bA); exact BK150.out) hb); have n3_ := mkA (zbS (by repeat (first | (with_reducible first | exact HB.out | apply lA | apply lN | apply lD | refine lS ?_ GE148.out | refine lS ?_ GE149.out | refine lS ?_ GE150.out) | exact HB.out)) hb); clear BK148; clear BK149; clear BK150; clear HB; have BK148 := n0_; have BK149 := n1_; have BK150 := n2_; have HB := n3_; clear n0_ n1_ n2_ n3_; (try clear hb); (try clear hb2); (try clear hk); (try clear hi); have hcz32_0 : w31.cell? ⟨gb148, 0, none⟩ = some (.int .i64 a1_0) := (bC BK148.out 0).trans rfl; have hcz32_1 : w31.cell? ⟨gb148, 1, none⟩ = some (.int .i64 a1_1) := (bC BK148.out 1).trans rfl; have hcz32_2 : w31.cell? ⟨gb148, 2, none⟩ = some (.string a1_2) := (bC BK148.out 2).trans rfl; have hcz32_3 : w31.cell? ⟨gb148, 3, none⟩ = some (.string a1_3) := (bC BK148.out 3).trans rfl; have hcz32_4 : w31.cell? ⟨gb148, 4, none⟩ = some (.int .i64 a1_4) := (bC BK148.out 4).trans rfl; have hcz32_5 : w31.cell? ⟨gb148, 5, none⟩ = some (.int .i64 a1_5) := (bC BK148.out 5).trans rfl; have hcz32_6 : w31.cell? ⟨gb148, 6, none⟩ = some (.string a1_6) := (bC BK148.out 6).trans rfl; have hfz32_0 := bF BK148.out 0; have hfz32_1 := bF BK148.out 1; have hfz32_2 := bF BK148.out 2; have hfz32_3 := bF BK148.out 3; have hfz32_4 := bF BK148.out 4; have hfz32_5 := bF BK148.out 5; have hfz32_6 := bF BK148.out 6) | ((with_reducible refine gate_callee (f := 101) rfl ?_); refine goesL_ (some 28) rfl rfl Try.func101 (by kernel_rfl) rfl #[.slice A0 l0.length c0, .string a1_2] rfl (by (try simp only [List.map_toArray, List.map_cons, List.map_nil]); first | done | rfl | (simp only [List.length_drop, List.length_take]; rfl)) ?_; (with_reducible refine (weighlockref24_Room.calls k _ _ l0 a1_2 false _ ?side1 ?side2 A6.out).mono ?_); (case side1 => repeat (first | exact (Kd.C_below HR0.out HB.out) | (with_reducible refine Kd.C_alloc ?_ _) | (with_reducible refine Kd.C_drewN ?_ _) | (with_reducible refine Kd.C_drew ?_))); (case side2 => exact HC0.out); rintro e w33 ⟨rfl, hb⟩; refine ⟨_, rfl, ?_⟩; have n0_ := mkA (bB (g := gb148) (o := .cells #[.int .i64 a1_0, .int .i64 a1_1, .string a1_2, .string a1_3, .int .i64 a1_4, .int .i64 a1_5, .string a1_6] 81 (0, 0)) (by (with_reducible repeat first | apply bN | apply bD | apply bA); exact BK148.out) hb); have n1_ := mkA (bB (g := gb149) (o := .cells #[.int .i64 0, .string (⟨#[]⟩ : ByteArray), .int .i64 0] 92 (0, 0)) (by (with_reducible repeat first | apply bN | apply bD | apply bA); exact BK149.out) hb); have n2_ := mkA (bB (g := gb150) (o := .cells #[.string a1_2, .string a1_3, .int .i64 a1_4, .int .i64 a1_1] 166 (0, 0)) (by (with_reducible repeat first | apply bN | apply bD | apply bA); exact BK150.out) hb); have n3_ := mkA (zbS (by repeat (first | (with_reducible first | exact HB.out | apply lA | apply lN | apply lD | refine lS ?_ GE148.out | refine lS ?_ GE149.out | refine lS ?_ GE150.out) | exact HB.out)) hb); clear BK148; clear BK149; clear BK150; clear HB; have BK148 := n0_; have BK149 := n1_; have BK150 := n2_; have HB := n3_; clear n0_ n1_ n2_ n3_; (try clear hb); (try clear hb2); (try clear hk); (try clear hi); have hcz34_0 : w33.cell? ⟨gb149, 0, none⟩ = some (.int .i64 0) := (bC BK149.out 0).trans rfl; have hcz34_1 : w33.cell? ⟨gb149, 1, none⟩ = some (.string (⟨#[]⟩ : ByteArray)) := (bC BK149.out 1).trans rfl; have hcz34_2 : w33.cell? ⟨gb149, 2, none⟩ = some (.int .i64 0) := (bC BK149.out 2).trans rfl; have hfz34_0 := bF BK149.out 0; have hfz34_1 := bF BK149.out 1; have hfz34_2 := bF BK149.out 2))
    refine bodyPost_ret (results_cell_row rfl _ _ gb149 92 #[.int .i64 0, .string (⟨#[]⟩ : ByteArray), .int .i64 5] (0, 0) _ rfl (by (with_reducible repeat first | apply bN | apply bD | apply bA); refine bP (cs := #[.int .i64 0, .string (⟨#[]⟩ : ByteArray), .int .i64 0]) ?_ 2 _ rfl; (with_reducible repeat first | apply bN | apply bD | apply bA); refine bP (cs := #[.int .i64 0, .string (⟨#[]⟩ : ByteArray), .int .i64 0]) ?_ 1 _ rfl; (with_reducible repeat first | apply bN | apply bD | apply bA); refine bP (cs := #[.int .i64 0, .string (⟨#[]⟩ : ByteArray), .int .i64 0]) ?_ 0 _ rfl; (with_reducible repeat first | apply bN | apply bD | apply bA); exact BK149.out) Try.underlying92 rfl (by kernel_rfl)) rfl ?_
    exact ⟨by first | rfl | (simp [errW_none, errW_some] <;> rfl) | (simp [*, errW_none, errW_some] <;> rfl), by repeat (first | (with_reducible first | exact HB.out | apply lA | apply lN | apply lD | refine lS ?_ GE148.out | refine lS ?_ GE149.out | refine lS ?_ GE150.out) | exact HB.out)⟩
  ·replace c5 := Bool.eq_false_iff.mpr c5
   subst c5
   have H1 : (some (0, (⟨#[]⟩ : ByteArray), 1)) = some (r1, r2, r3) := by rw [if_neg (show ¬ (false = true) by decide)] at H; exact H
   clear H
   have H := H1
   clear H1
   simp only [Option.some.injEq, Prod.mk.injEq] at H
   obtain ⟨rfl, rfl, rfl⟩ := H
   go_enter Try.func50, Try.ntmps50
   go_wp2_with (first | ((with_reducible refine gate_dst (N := 3) rfl ?_); refine box_event ?hg (N := 3) ?hd (cs := #[.int .i64 a1_0, .int .i64 a1_1, .string a1_2, .string a1_3, .int .i64 a1_4, .int .i64 a1_5, .string a1_6]) (t := 81) ?hr ?_; (case hd => rfl); (case hg => rfl); (case hr => first | (go_simp; done) | (go_simp; rfl)); intro gb148 hg w35 hbox hb; have n0_ := mkA (zbS (by repeat (first | (with_reducible first | exact HB.out | apply lA | apply lN | apply lD) | exact HB.out)) hb); have n1_ := mkA (hbox); have n2_ := mkA ((by rw [hg]; exact (below_size (by repeat (first | (with_reducible first | exact HB.out | apply lA | apply lN | apply lD) | exact HB.out))) : w.heap.size ≤ gb148)); have n3_ := mkA ((by rw [hg]; exact (below_size (by repeat (first | (with_reducible first | exact HB.out | apply lA | apply lN | apply lD) | exact HB.out))) : w.heap.size ≤ gb148)); clear HB; have HB := n0_; have BK148 := n1_; have GW148 := n2_; have GE148 := n3_; clear n0_ n1_ n2_ n3_; clear hb hbox hg) | ((with_reducible refine gate_dst (N := 4) rfl ?_); refine box_event ?hg (N := 4) ?hd (cs := #[.int .i64 0, .string (⟨#[]⟩ : ByteArray), .int .i64 0]) (t := 92) ?hr ?_; (case hd => rfl); (case hg => rfl); (case hr => first | (go_simp; done) | (go_simp; rfl)); intro gb149 hg w36 hbox hb; have n0_ := mkA (bB (g := gb148) (o := .cells #[.int .i64 a1_0, .int .i64 a1_1, .string a1_2, .string a1_3, .int .i64 a1_4, .int .i64 a1_5, .string a1_6] 81 (0, 0)) (by (with_reducible repeat first | apply bN | apply bD | apply bA); exact BK148.out) hb); have n1_ := mkA (zbS (by repeat (first | (with_reducible first | exact HB.out | apply lA | apply lN | apply lD | refine lS ?_ GE148.out) | exact HB.out)) hb); have n2_ := mkA (hbox); have n3_ := mkA ((by rw [hg]; exact (below_size (by repeat (first | (with_reducible first | exact HB.out | apply lA | apply lN | apply lD | refine lS ?_ GE148.out) | exact HB.out))) : w.heap.size ≤ gb149)); have n4_ := mkA ((by rw [hg]; exact (below_size (by repeat (first | (with_reducible first | exact HB.out | apply lA | apply lN | apply lD | refine lS ?_ GE148.out) | exact HB.out))) : w.heap.size ≤ gb149)); have n5_ := mkA ((by rw [hg]; exact Nat.ne_of_lt (blk_lt (g := gb148) (o := .cells #[.int .i64 a1_0, .int .i64 a1_1, .string a1_2, .string a1_3, .int .i64 a1_4, .int .i64 a1_5, .string a1_6] 81 (0, 0)) (by (with_reducible repeat first | apply bN | apply bD | apply bA); exact BK148.out)) : gb148 ≠ gb149)); have n6_ := mkA ((by rw [hg]; exact Nat.ne_of_gt (blk_lt (g := gb148) (o := .cells #[.int .i64 a1_0, .int .i64 a1_1, .string a1_2, .string a1_3, .int .i64 a1_4, .int .i64 a1_5, .string a1_6] 81 (0, 0)) (by (with_reducible repeat first | apply bN | apply bD | apply bA); exact BK148.out)) : gb149 ≠ gb148)); clear BK148; clear HB; have BK148 := n0_; have HB := n1_; have BK149 := n2_; have GW149 := n3_; have GE149 := n4_; have NB148_149 := n5_; have NB149_148 := n6_; clear n0_ n1_ n2_ n3_ n4_ n5_ n6_; clear hb hbox hg; have hnb37 := NB148_149.out; have hnc37 := NB149_148.out; have hcz38_0 : w36.cell? ⟨gb148, 0, none⟩ = some (.int .i64 a1_0) := (bC BK148.out 0).trans rfl; have hcz38_1 : w36.cell? ⟨gb148, 1, none⟩ = some (.int .i64 a1_1) := (bC BK148.out 1).trans rfl; have hcz38_2 : w36.cell? ⟨gb148, 2, none⟩ = some (.string a1_2) := (bC BK148.out 2).trans rfl; have hcz38_3 : w36.cell? ⟨gb148, 3, none⟩ = some (.string a1_3) := (bC BK148.out 3).trans rfl; have hcz38_4 : w36.cell? ⟨gb148, 4, none⟩ = some (.int .i64 a1_4) := (bC BK148.out 4).trans rfl; have hcz38_5 : w36.cell? ⟨gb148, 5, none⟩ = some (.int .i64 a1_5) := (bC BK148.out 5).trans rfl; have hcz38_6 : w36.cell? ⟨gb148, 6, none⟩ = some (.string a1_6) := (bC BK148.out 6).trans rfl; have hfz38_0 := bF BK148.out 0; have hfz38_1 := bF BK148.out 1; have hfz38_2 := bF BK148.out 2; have hfz38_3 := bF BK148.out 3; have hfz38_4 := bF BK148.out 4; have hfz38_5 := bF BK148.out 5; have hfz38_6 := bF BK148.out 6) | ((with_reducible refine gate_dst (N := 5) rfl ?_); refine box_event ?hg (N := 5) ?hd (cs := #[.string (⟨#[]⟩ : ByteArray), .string (⟨#[]⟩ : ByteArray), .int .i64 0, .int .i64 0]) (t := 166) ?hr ?_; (case hd => rfl); (case hg => rfl); (case hr => first | (go_simp; done) | (go_simp; rfl)); intro gb150 hg w39 hbox hb; have n0_ := mkA (bB (g := gb148) (o := .cells #[.int .i64 a1_0, .int .i64 a1_1, .string a1_2, .string a1_3, .int .i64 a1_4, .int .i64 a1_5, .string a1_6] 81 (0, 0)) (by (with_reducible repeat first | apply bN | apply bD | apply bA); exact BK148.out) hb); have n1_ := mkA (bB (g := gb149) (o := .cells #[.int .i64 0, .string (⟨#[]⟩ : ByteArray), .int .i64 0] 92 (0, 0)) (by (with_reducible repeat first | apply bN | apply bD | apply bA); exact BK149.out) hb); have n2_ := mkA (zbS (by repeat (first | (with_reducible first | exact HB.out | apply lA | apply lN | apply lD | refine lS ?_ GE148.out | refine lS ?_ GE149.out) | exact HB.out)) hb); have n3_ := mkA (hbox); have n4_ := mkA ((by rw [hg]; exact (below_size (by repeat (first | (with_reducible first | exact HB.out | apply lA | apply lN | apply lD | refine lS ?_ GE148.out | refine lS ?_ GE149.out) | exact HB.out))) : w.heap.size ≤ gb150)); have n5_ := mkA ((by rw [hg]; exact (below_size (by repeat (first | (with_reducible first | exact HB.out | apply lA | apply lN | apply lD | refine lS ?_ GE148.out | refine lS ?_ GE149.out) | exact HB.out))) : w.heap.size ≤ gb150)); have n6_ := mkA ((by rw [hg]; exact Nat.ne_of_lt (blk_lt (g := gb148) (o := .cells #[.int .i64 a1_0, .int .i64 a1_1, .string a1_2, .string a1_3, .int .i64 a1_4, .int .i64 a1_5, .string a1_6] 81 (0, 0)) (by (with_reducible repeat first | apply bN | apply bD | apply bA); exact BK148.out)) : gb148 ≠ gb150)); have n7_ := mkA ((by rw [hg]; exact Nat.ne_of_gt (blk_lt (g := gb148) (o := .cells #[.int .i64 a1_0, .int .i64 a1_1, .string a1_2, .string a1_3, .int .i64 a1_4, .int .i64 a1_5, .string a1_6] 81 (0, 0)) (by (with_reducible repeat first | apply bN | apply bD | apply bA); exact BK148.out)) : gb150 ≠ gb148)); have n8_ := mkA ((by rw [hg]; exact Nat.ne_of_lt (blk_lt (g := gb149) (o := .cells #[.int .i64 0, .string (⟨#[]⟩ : ByteArray), .int .i64 0] 92 (0, 0)) (by (with_reducible repeat first | apply bN | apply bD | apply bA); exact BK149.out)) : gb149 ≠ gb150)); have n9_ := mkA ((by rw [hg]; exact Nat.ne_of_gt (blk_lt (g := gb149) (o := .cells #[.int .i64 0, .string (⟨#[]⟩ : ByteArray), .int .i64 0] 92 (0, 0)) (by (with_reducible repeat first | apply bN | apply bD | apply bA); exact BK149.out)) : gb150 ≠ gb149)); clear BK148; clear BK149; clear HB; have BK148 := n0_; have BK149 := n1_; have HB := n2_; have BK150 := n3_; have GW150 := n4_; have GE150 := n5_; have NB148_150 := n6_; have NB150_148 := n7_; have NB149_150 := n8_; have NB150_149 := n9_; clear n0_ n1_ n2_ n3_ n4_ n5_ n6_ n7_ n8_ n9_; clear hb hbox hg; have hnb40 := NB150_148.out; have hnc40 := NB148_150.out; have hnb41 := NB150_149.out; have hnc41 := NB149_150.out; have hcz42_0 : w39.cell? ⟨gb150, 0, none⟩ = some (.string (⟨#[]⟩ : ByteArray)) := (bC BK150.out 0).trans rfl; have hcz42_1 : w39.cell? ⟨gb150, 1, none⟩ = some (.string (⟨#[]⟩ : ByteArray)) := (bC BK150.out 1).trans rfl; have hcz42_2 : w39.cell? ⟨gb150, 2, none⟩ = some (.int .i64 0) := (bC BK150.out 2).trans rfl; have hcz42_3 : w39.cell? ⟨gb150, 3, none⟩ = some (.int .i64 0) := (bC BK150.out 3).trans rfl; have hfz42_0 := bF BK150.out 0; have hfz42_1 := bF BK150.out 1; have hfz42_2 := bF BK150.out 2; have hfz42_3 := bF BK150.out 3) | ((with_reducible refine gate_callee (f := 100) rfl ?_); refine goesL_ (some 21) rfl rfl Try.func100 (by kernel_rfl) rfl #[.agg #[.string a1_2, .string a1_3, .int .i64 a1_4, .int .i64 a1_1]] rfl (by (try simp only [List.map_toArray, List.map_cons, List.map_nil]); first | done | rfl | (simp only [List.length_drop, List.length_take]; rfl)) ?_; (with_reducible refine (weighlockref24_May.calls k a1_2 a1_3 a1_4 a1_1 false _ A4.out).mono ?_); rintro e w43 ⟨rfl, hb⟩; refine ⟨_, rfl, ?_⟩; have n0_ := mkA (bB (g := gb148) (o := .cells #[.int .i64 a1_0, .int .i64 a1_1, .string a1_2, .string a1_3, .int .i64 a1_4, .int .i64 a1_5, .string a1_6] 81 (0, 0)) (by (with_reducible repeat first | apply bN | apply bD | apply bA); refine bR ?_ NB148_150.out _; (with_reducible repeat first | apply bN | apply bD | apply bA); refine bR ?_ NB148_150.out _; (with_reducible repeat first | apply bN | apply bD | apply bA); refine bR ?_ NB148_150.out _; (with_reducible repeat first | apply bN | apply bD | apply bA); refine bR ?_ NB148_150.out _; (with_reducible repeat first | apply bN | apply bD | apply bA); exact BK148.out) hb); have n1_ := mkA (bB (g := gb149) (o := .cells #[.int .i64 0, .string (⟨#[]⟩ : ByteArray), .int .i64 0] 92 (0, 0)) (by (with_reducible repeat first | apply bN | apply bD | apply bA); refine bR ?_ NB149_150.out _; (with_reducible repeat first | apply bN | apply bD | apply bA); refine bR ?_ NB149_150.out _; (with_reducible repeat first | apply bN | apply bD | apply bA); refine bR ?_ NB149_150.out _; (with_reducible repeat first | apply bN | apply bD | apply bA); refine bR ?_ NB149_150.out _; (with_reducible repeat first | apply bN | apply bD | apply bA); exact BK149.out) hb); have n2_ := mkA (bB (g := gb150) (o := .cells #[.string a1_2, .string a1_3, .int .i64 a1_4, .int .i64 a1_1] 166 (0, 0)) (by (with_reducible repeat first | apply bN | apply bD | apply bA); refine bP (cs := #[.string a1_2, .string a1_3, .int .i64 a1_4, .int .i64 0]) ?_ 3 _ rfl; (with_reducible repeat first | apply bN | apply bD | apply bA); refine bP (cs := #[.string a1_2, .string a1_3, .int .i64 0, .int .i64 0]) ?_ 2 _ rfl; (with_reducible repeat first | apply bN | apply bD | apply bA); refine bP (cs := #[.string a1_2, .string (⟨#[]⟩ : ByteArray), .int .i64 0, .int .i64 0]) ?_ 1 _ rfl; (with_reducible repeat first | apply bN | apply bD | apply bA); refine bP (cs := #[.string (⟨#[]⟩ : ByteArray), .string (⟨#[]⟩ : ByteArray), .int .i64 0, .int .i64 0]) ?_ 0 _ rfl; (with_reducible repeat first | apply bN | apply bD | apply bA); exact BK150.out) hb); have n3_ := mkA (zbS (by repeat (first | (with_reducible first | exact HB.out | apply lA | apply lN | apply lD | refine lS ?_ GE148.out | refine lS ?_ GE149.out | refine lS ?_ GE150.out) | exact HB.out)) hb); clear BK148; clear BK149; clear BK150; clear HB; have BK148 := n0_; have BK149 := n1_; have BK150 := n2_; have HB := n3_; clear n0_ n1_ n2_ n3_; (try clear hb); (try clear hb2); (try clear hk); (try clear hi); have hcz44_0 : w43.cell? ⟨gb149, 0, none⟩ = some (.int .i64 0) := (bC BK149.out 0).trans rfl; have hcz44_1 : w43.cell? ⟨gb149, 1, none⟩ = some (.string (⟨#[]⟩ : ByteArray)) := (bC BK149.out 1).trans rfl; have hcz44_2 : w43.cell? ⟨gb149, 2, none⟩ = some (.int .i64 0) := (bC BK149.out 2).trans rfl; have hfz44_0 := bF BK149.out 0; have hfz44_1 := bF BK149.out 1; have hfz44_2 := bF BK149.out 2))
   refine bodyPost_ret (results_cell_row rfl _ _ gb149 92 #[.int .i64 0, .string (⟨#[]⟩ : ByteArray), .int .i64 1] (0, 0) _ rfl (by (with_reducible repeat first | apply bN | apply bD | apply bA); refine bP (cs := #[.int .i64 0, .string (⟨#[]⟩ : ByteArray), .int .i64 0]) ?_ 2 _ rfl; (with_reducible repeat first | apply bN | apply bD | apply bA); refine bP (cs := #[.int .i64 0, .string (⟨#[]⟩ : ByteArray), .int .i64 0]) ?_ 1 _ rfl; (with_reducible repeat first | apply bN | apply bD | apply bA); refine bP (cs := #[.int .i64 0, .string (⟨#[]⟩ : ByteArray), .int .i64 0]) ?_ 0 _ rfl; (with_reducible repeat first | apply bN | apply bD | apply bA); exact BK149.out) Try.underlying92 rfl (by kernel_rfl)) rfl ?_
   exact ⟨by first | rfl | (simp [errW_none, errW_some] <;> rfl) | (simp [*, errW_none, errW_some] <;> rfl), by repeat (first | (with_reducible first | exact HB.out | apply lA | apply lN | apply lD | refine lS ?_ GE148.out | refine lS ?_ GE149.out | refine lS ?_ GE150.out) | exact HB.out)⟩
 ·rw [if_neg c3] at H
  have c3b0 : (a1_0 == 0) = false := beq_eq_false_iff_ne.mpr c3
  have c3b1 : (a1_0 != 0) = true := bne_iff_ne.mpr c3
  by_cases c45 : a1_0 = 1
  ·rw [if_pos c45] at H
   have c45b0 : (a1_0 == 1) = true := beq_iff_eq.mpr c45
   have c45b1 : (a1_0 != 1) = false := bne_eq_false_iff_eq.mpr c45
   clear c45
   replace H := Option.bind_eq_some_iff.mp H
   obtain ⟨t155, A460, H⟩ := H
   replace H : (if t155 = true then ((some (([((a1_3.size : Int)) % 256] : List Int) : List Int)).bind fun y156 => (if (strOfNums y156).size + a1_3.size ≤ 9223372036854775807 then (some (2, (strOfNums y156) ++ a1_3, 0)) else (none))) else (some (0, (⟨#[]⟩ : ByteArray), 1))) = some (r1, r2, r3) := H
   have A46 := mkA A460
   clear A460
   by_cases c47 : t155 = true
   ·subst c47
    have H1 : ((some (([((a1_3.size : Int)) % 256] : List Int) : List Int)).bind fun y156 => (if (strOfNums y156).size + a1_3.size ≤ 9223372036854775807 then (some (2, (strOfNums y156) ++ a1_3, 0)) else (none))) = some (r1, r2, r3) := by rw [if_pos rfl] at H; exact H
    clear H
    have H := H1
    clear H1
    obtain ⟨y156, hy156⟩ : ∃ y_ : List Int, y_ = (([((a1_3.size : Int)) % 256] : List Int)) := ⟨_, rfl⟩
    replace H : (if (strOfNums y156).size + a1_3.size ≤ 9223372036854775807 then (some (2, (strOfNums y156) ++ a1_3, 0)) else (none)) = some (r1, r2, r3) := by first | (rw [hy156]; with_reducible exact H) | (have H2_ := (Option.bind_some _ _).symm.trans H; rw [hy156]; with_reducible exact H2_) | (have H2_ := (Option.bind_some _ _).symm.trans H; with_reducible exact H2_) | with_reducible exact H | (rw [hy156]; exact H) | exact H
    have Ny156 := mkA hy156
    clear hy156
    by_cases c48 : (strOfNums y156).size + a1_3.size ≤ 9223372036854775807
    ·rw [if_pos c48] at H
     have c48b0 := eq_true c48
     have c48b1 : decide ((strOfNums y156).size + a1_3.size ≤ 9223372036854775807) = true := decide_eq_true c48
     try have c48b2 : (9223372036854775807 < (strOfNums y156).size + a1_3.size) = False := eq_false (Nat.not_lt.2 c48)
     try have c48b2n := c48b2
     try simp only [ByteArray.size_append] at c48b2n
     simp only [Option.some.injEq, Prod.mk.injEq] at H
     obtain ⟨rfl, rfl, rfl⟩ := H
     go_enter Try.func50, Try.ntmps50
     go_wp2_with (first | ((with_reducible refine gate_dst (N := 3) rfl ?_); refine box_event ?hg (N := 3) ?hd (cs := #[.int .i64 a1_0, .int .i64 a1_1, .string a1_2, .string a1_3, .int .i64 a1_4, .int .i64 a1_5, .string a1_6]) (t := 81) ?hr ?_; (case hd => rfl); (case hg => rfl); (case hr => first | (go_simp; done) | (go_simp; rfl)); intro gb148 hg w49 hbox hb; have n0_ := mkA (zbS (by repeat (first | (with_reducible first | exact HB.out | apply lA | apply lN | apply lD) | exact HB.out)) hb); have n1_ := mkA (hbox); have n2_ := mkA ((by rw [hg]; exact (below_size (by repeat (first | (with_reducible first | exact HB.out | apply lA | apply lN | apply lD) | exact HB.out))) : w.heap.size ≤ gb148)); have n3_ := mkA ((by rw [hg]; exact (below_size (by repeat (first | (with_reducible first | exact HB.out | apply lA | apply lN | apply lD) | exact HB.out))) : w.heap.size ≤ gb148)); clear HB; have HB := n0_; have BK148 := n1_; have GW148 := n2_; have GE148 := n3_; clear n0_ n1_ n2_ n3_; clear hb hbox hg) | ((with_reducible refine gate_dst (N := 4) rfl ?_); refine box_event ?hg (N := 4) ?hd (cs := #[.int .i64 0, .string (⟨#[]⟩ : ByteArray), .int .i64 0]) (t := 92) ?hr ?_; (case hd => rfl); (case hg => rfl); (case hr => first | (go_simp; done) | (go_simp; rfl)); intro gb149 hg w50 hbox hb; have n0_ := mkA (bB (g := gb148) (o := .cells #[.int .i64 a1_0, .int .i64 a1_1, .string a1_2, .string a1_3, .int .i64 a1_4, .int .i64 a1_5, .string a1_6] 81 (0, 0)) (by (with_reducible repeat first | apply bN | apply bD | apply bA); exact BK148.out) hb); have n1_ := mkA (zbS (by repeat (first | (with_reducible first | exact HB.out | apply lA | apply lN | apply lD | refine lS ?_ GE148.out) | exact HB.out)) hb); have n2_ := mkA (hbox); have n3_ := mkA ((by rw [hg]; exact (below_size (by repeat (first | (with_reducible first | exact HB.out | apply lA | apply lN | apply lD | refine lS ?_ GE148.out) | exact HB.out))) : w.heap.size ≤ gb149)); have n4_ := mkA ((by rw [hg]; exact (below_size (by repeat (first | (with_reducible first | exact HB.out | apply lA | apply lN | apply lD | refine lS ?_ GE148.out) | exact HB.out))) : w.heap.size ≤ gb149)); have n5_ := mkA ((by rw [hg]; exact Nat.ne_of_lt (blk_lt (g := gb148) (o := .cells #[.int .i64 a1_0, .int .i64 a1_1, .string a1_2, .string a1_3, .int .i64 a1_4, .int .i64 a1_5, .string a1_6] 81 (0, 0)) (by (with_reducible repeat first | apply bN | apply bD | apply bA); exact BK148.out)) : gb148 ≠ gb149)); have n6_ := mkA ((by rw [hg]; exact Nat.ne_of_gt (blk_lt (g := gb148) (o := .cells #[.int .i64 a1_0, .int .i64 a1_1, .string a1_2, .string a1_3, .int .i64 a1_4, .int .i64 a1_5, .string a1_6] 81 (0, 0)) (by (with_reducible repeat first | apply bN | apply bD | apply bA); exact BK148.out)) : gb149 ≠ gb148)); clear BK148; clear HB; have BK148 := n0_; have HB := n1_; have BK149 := n2_; have GW149 := n3_; have GE149 := n4_; have NB148_149 := n5_; have NB149_148 := n6_; clear n0_ n1_ n2_ n3_ n4_ n5_ n6_; clear hb hbox hg; have hnb51 := NB148_149.out; have hnc51 := NB149_148.out; have hcz52_0 : w50.cell? ⟨gb148, 0, none⟩ = some (.int .i64 a1_0) := (bC BK148.out 0).trans rfl; have hcz52_1 : w50.cell? ⟨gb148, 1, none⟩ = some (.int .i64 a1_1) := (bC BK148.out 1).trans rfl; have hcz52_2 : w50.cell? ⟨gb148, 2, none⟩ = some (.string a1_2) := (bC BK148.out 2).trans rfl; have hcz52_3 : w50.cell? ⟨gb148, 3, none⟩ = some (.string a1_3) := (bC BK148.out 3).trans rfl; have hcz52_4 : w50.cell? ⟨gb148, 4, none⟩ = some (.int .i64 a1_4) := (bC BK148.out 4).trans rfl; have hcz52_5 : w50.cell? ⟨gb148, 5, none⟩ = some (.int .i64 a1_5) := (bC BK148.out 5).trans rfl; have hcz52_6 : w50.cell? ⟨gb148, 6, none⟩ = some (.string a1_6) := (bC BK148.out 6).trans rfl; have hfz52_0 := bF BK148.out 0; have hfz52_1 := bF BK148.out 1; have hfz52_2 := bF BK148.out 2; have hfz52_3 := bF BK148.out 3; have hfz52_4 := bF BK148.out 4; have hfz52_5 := bF BK148.out 5; have hfz52_6 := bF BK148.out 6) | ((with_reducible refine gate_callee (f := 79) rfl ?_); refine goesL_ (some 41) rfl rfl Try.func79 (by kernel_rfl) rfl #[.string a1_3] rfl (by (try simp only [List.map_toArray, List.map_cons, List.map_nil]); first | done | rfl | (simp only [List.length_drop, List.length_take]; rfl)) ?_; (with_reducible refine (weighlockref22_Name.calls k a1_3 true _ A46.out).mono ?_); rintro e w' ⟨rfl, ⟨nd, rfl⟩⟩; refine ⟨_, rfl, ?_⟩; (try (rw [drewN_self w50]; generalize hq_ : World.drewN w50 _ = w50; have n0_ : Aside0 (w50.heap[gb148]? = some (.cells #[.int .i64 a1_0, .int .i64 a1_1, .string a1_2, .string a1_3, .int .i64 a1_4, .int .i64 a1_5, .string a1_6] 81 (0, 0))) := ⟨by rw [← hq_]; exact (by (with_reducible repeat first | apply bN | apply bD | apply bA); exact BK148.out)⟩; have n1_ : Aside0 (w50.heap[gb149]? = some (.cells #[.int .i64 0, .string (⟨#[]⟩ : ByteArray), .int .i64 0] 92 (0, 0))) := ⟨by rw [← hq_]; exact (by (with_reducible repeat first | apply bN | apply bD | apply bA); exact BK149.out)⟩; have n2_ : Aside0 (Below w.heap.size w w50) := ⟨by rw [← hq_]; exact (by repeat (first | (with_reducible first | exact HB.out | apply lA | apply lN | apply lD | refine lS ?_ GE148.out | refine lS ?_ GE149.out) | exact HB.out))⟩; clear BK148 BK149 HB hq_; have BK148 := n0_; have BK149 := n1_; have HB := n2_; clear n0_ n1_ n2_))) | ((with_reducible refine gate_dst (N := 47) rfl ?_); refine Kd.R_lit (Kd.int .u8) _ 5 ?hg (N := 47) ?hd (xs := ([((a1_3.size : Int)) % 256] : List Int)) (inner := [.int .u8 (((a1_3.size : Int)) % 256)]) (ok := fun _ => True) (okp := fun _ => True) ?hr ?hp (fun _ hk => hk) trivial (Below.refl _ _) (Nat.le_refl _) (by simp) ?_; (case hd => rfl); (case hg => rfl); (case hr => first | (go_simp; done) | (go_simp; rfl)); (case hp => exact (Reps.one (show Kd.M (Kd.int .u8) _ _ _ (((a1_3.size : Int)) % 256) [.int .u8 (((a1_3.size : Int)) % 256)] from rfl) (Reps.none _ _))); intro v157 w53 ho54 hb hg_ hnew_; clear hg_ hnew_; (first | rw [← Ny156.out] at ho54 | (simp only [Int.reduceToNat] at ho54; rw [← Ny156.out] at ho54)); have n0_ := mkA (Kd.R_lower ho54 (below_size (by repeat (first | (with_reducible first | exact HB.out | apply lA | apply lN | apply lD | refine lS ?_ GE148.out | refine lS ?_ GE149.out) | exact HB.out)))); have n1_ := mkA (bB (g := gb148) (o := .cells #[.int .i64 a1_0, .int .i64 a1_1, .string a1_2, .string a1_3, .int .i64 a1_4, .int .i64 a1_5, .string a1_6] 81 (0, 0)) (by (with_reducible repeat first | apply bN | apply bD | apply bA); exact BK148.out) hb); have n2_ := mkA (bB (g := gb149) (o := .cells #[.int .i64 0, .string (⟨#[]⟩ : ByteArray), .int .i64 0] 92 (0, 0)) (by (with_reducible repeat first | apply bN | apply bD | apply bA); exact BK149.out) hb); have n3_ := mkA (zbS (by repeat (first | (with_reducible first | exact HB.out | apply lA | apply lN | apply lD | refine lS ?_ GE148.out | refine lS ?_ GE149.out) | exact HB.out)) hb); clear BK148; clear BK149; clear HB; have HO158 := n0_; have BK148 := n1_; have BK149 := n2_; have HB := n3_; clear n0_ n1_ n2_ n3_; clear hb ho54; have hcv55 := own_string (P := Try.prog) Try.underlying170 Try.underlying5 Try.underlying9 (Kd.own_of_R HO158.out); have hcz56_0 : w53.cell? ⟨gb149, 0, none⟩ = some (.int .i64 0) := (bC BK149.out 0).trans rfl; have hcz56_1 : w53.cell? ⟨gb149, 1, none⟩ = some (.string (⟨#[]⟩ : ByteArray)) := (bC BK149.out 1).trans rfl; have hcz56_2 : w53.cell? ⟨gb149, 2, none⟩ = some (.int .i64 0) := (bC BK149.out 2).trans rfl; have hfz56_0 := bF BK149.out 0; have hfz56_1 := bF BK149.out 1; have hfz56_2 := bF BK149.out 2))
     refine bodyPost_ret (results_cell_row rfl _ _ gb149 92 #[.int .i64 2, .string ((strOfNums y156) ++ a1_3), .int .i64 0] (0, 0) _ rfl (by (with_reducible repeat first | apply bN | apply bD | apply bA); refine bP (cs := #[.int .i64 2, .string ((strOfNums y156) ++ a1_3), .int .i64 0]) ?_ 2 _ rfl; (with_reducible repeat first | apply bN | apply bD | apply bA); refine bP (cs := #[.int .i64 2, .string (⟨#[]⟩ : ByteArray), .int .i64 0]) ?_ 1 _ rfl; (with_reducible repeat first | apply bN | apply bD | apply bA); refine bP (cs := #[.int .i64 0, .string (⟨#[]⟩ : ByteArray), .int .i64 0]) ?_ 0 _ rfl; (with_reducible repeat first | apply bN | apply bD | apply bA); exact BK149.out) Try.underlying92 rfl (by kernel_rfl)) rfl ?_
     exact ⟨by first | rfl | (simp [errW_none, errW_some] <;> rfl) | (simp [*, errW_none, errW_some] <;> rfl), by repeat (first | (with_reducible first | exact HB.out | apply lA | apply lN | apply lD | refine lS ?_ GE148.out | refine lS ?_ GE149.out) | exact HB.out)⟩
    ·rw [if_neg c48] at H
     exact absurd H (by simp)
   ·replace c47 := Bool.eq_false_iff.mpr c47
    subst c47
    have H1 : (some (0, (⟨#[]⟩ : ByteArray), 1)) = some (r1, r2, r3) := by rw [if_neg (show ¬ (false = true) by decide)] at H; exact H
    clear H
    have H := H1
    clear H1
    simp only [Option.some.injEq, Prod.mk.injEq] at H
    obtain ⟨rfl, rfl, rfl⟩ := H
    go_enter Try.func50, Try.ntmps50
    go_wp2_with (first | ((with_reducible refine gate_dst (N := 3) rfl ?_); refine box_event ?hg (N := 3) ?hd (cs := #[.int .i64 a1_0, .int .i64 a1_1, .string a1_2, .string a1_3, .int .i64 a1_4, .int .i64 a1_5, .string a1_6]) (t := 81) ?hr ?_; (case hd => rfl); (case hg => rfl); (case hr => first | (go_simp; done) | (go_simp; rfl)); intro gb148 hg w57 hbox hb; have n0_ := mkA (zbS (by repeat (first | (with_reducible first | exact HB.out | apply lA | apply lN | apply lD) | exact HB.out)) hb); have n1_ := mkA (hbox); have n2_ := mkA ((by rw [hg]; exact (below_size (by repeat (first | (with_reducible first | exact HB.out | apply lA | apply lN | apply lD) | exact HB.out))) : w.heap.size ≤ gb148)); have n3_ := mkA ((by rw [hg]; exact (below_size (by repeat (first | (with_reducible first | exact HB.out | apply lA | apply lN | apply lD) | exact HB.out))) : w.heap.size ≤ gb148)); clear HB; have HB := n0_; have BK148 := n1_; have GW148 := n2_; have GE148 := n3_; clear n0_ n1_ n2_ n3_; clear hb hbox hg) | ((with_reducible refine gate_dst (N := 4) rfl ?_); refine box_event ?hg (N := 4) ?hd (cs := #[.int .i64 0, .string (⟨#[]⟩ : ByteArray), .int .i64 0]) (t := 92) ?hr ?_; (case hd => rfl); (case hg => rfl); (case hr => first | (go_simp; done) | (go_simp; rfl)); intro gb149 hg w58 hbox hb; have n0_ := mkA (bB (g := gb148) (o := .cells #[.int .i64 a1_0, .int .i64 a1_1, .string a1_2, .string a1_3, .int .i64 a1_4, .int .i64 a1_5, .string a1_6] 81 (0, 0)) (by (with_reducible repeat first | apply bN | apply bD | apply bA); exact BK148.out) hb); have n1_ := mkA (zbS (by repeat (first | (with_reducible first | exact HB.out | apply lA | apply lN | apply lD | refine lS ?_ GE148.out) | exact HB.out)) hb); have n2_ := mkA (hbox); have n3_ := mkA ((by rw [hg]; exact (below_size (by repeat (first | (with_reducible first | exact HB.out | apply lA | apply lN | apply lD | refine lS ?_ GE148.out) | exact HB.out))) : w.heap.size ≤ gb149)); have n4_ := mkA ((by rw [hg]; exact (below_size (by repeat (first | (with_reducible first | exact HB.out | apply lA | apply lN | apply lD | refine lS ?_ GE148.out) | exact HB.out))) : w.heap.size ≤ gb149)); have n5_ := mkA ((by rw [hg]; exact Nat.ne_of_lt (blk_lt (g := gb148) (o := .cells #[.int .i64 a1_0, .int .i64 a1_1, .string a1_2, .string a1_3, .int .i64 a1_4, .int .i64 a1_5, .string a1_6] 81 (0, 0)) (by (with_reducible repeat first | apply bN | apply bD | apply bA); exact BK148.out)) : gb148 ≠ gb149)); have n6_ := mkA ((by rw [hg]; exact Nat.ne_of_gt (blk_lt (g := gb148) (o := .cells #[.int .i64 a1_0, .int .i64 a1_1, .string a1_2, .string a1_3, .int .i64 a1_4, .int .i64 a1_5, .string a1_6] 81 (0, 0)) (by (with_reducible repeat first | apply bN | apply bD | apply bA); exact BK148.out)) : gb149 ≠ gb148)); clear BK148; clear HB; have BK148 := n0_; have HB := n1_; have BK149 := n2_; have GW149 := n3_; have GE149 := n4_; have NB148_149 := n5_; have NB149_148 := n6_; clear n0_ n1_ n2_ n3_ n4_ n5_ n6_; clear hb hbox hg; have hnb59 := NB148_149.out; have hnc59 := NB149_148.out; have hcz60_0 : w58.cell? ⟨gb148, 0, none⟩ = some (.int .i64 a1_0) := (bC BK148.out 0).trans rfl; have hcz60_1 : w58.cell? ⟨gb148, 1, none⟩ = some (.int .i64 a1_1) := (bC BK148.out 1).trans rfl; have hcz60_2 : w58.cell? ⟨gb148, 2, none⟩ = some (.string a1_2) := (bC BK148.out 2).trans rfl; have hcz60_3 : w58.cell? ⟨gb148, 3, none⟩ = some (.string a1_3) := (bC BK148.out 3).trans rfl; have hcz60_4 : w58.cell? ⟨gb148, 4, none⟩ = some (.int .i64 a1_4) := (bC BK148.out 4).trans rfl; have hcz60_5 : w58.cell? ⟨gb148, 5, none⟩ = some (.int .i64 a1_5) := (bC BK148.out 5).trans rfl; have hcz60_6 : w58.cell? ⟨gb148, 6, none⟩ = some (.string a1_6) := (bC BK148.out 6).trans rfl; have hfz60_0 := bF BK148.out 0; have hfz60_1 := bF BK148.out 1; have hfz60_2 := bF BK148.out 2; have hfz60_3 := bF BK148.out 3; have hfz60_4 := bF BK148.out 4; have hfz60_5 := bF BK148.out 5; have hfz60_6 := bF BK148.out 6) | ((with_reducible refine gate_callee (f := 79) rfl ?_); refine goesL_ (some 41) rfl rfl Try.func79 (by kernel_rfl) rfl #[.string a1_3] rfl (by (try simp only [List.map_toArray, List.map_cons, List.map_nil]); first | done | rfl | (simp only [List.length_drop, List.length_take]; rfl)) ?_; (with_reducible refine (weighlockref22_Name.calls k a1_3 false _ A46.out).mono ?_); rintro e w' ⟨rfl, ⟨nd, rfl⟩⟩; refine ⟨_, rfl, ?_⟩; (try (rw [drewN_self w58]; generalize hq_ : World.drewN w58 _ = w58; have n0_ : Aside0 (w58.heap[gb148]? = some (.cells #[.int .i64 a1_0, .int .i64 a1_1, .string a1_2, .string a1_3, .int .i64 a1_4, .int .i64 a1_5, .string a1_6] 81 (0, 0))) := ⟨by rw [← hq_]; exact (by (with_reducible repeat first | apply bN | apply bD | apply bA); exact BK148.out)⟩; have n1_ : Aside0 (w58.heap[gb149]? = some (.cells #[.int .i64 0, .string (⟨#[]⟩ : ByteArray), .int .i64 0] 92 (0, 0))) := ⟨by rw [← hq_]; exact (by (with_reducible repeat first | apply bN | apply bD | apply bA); exact BK149.out)⟩; have n2_ : Aside0 (Below w.heap.size w w58) := ⟨by rw [← hq_]; exact (by repeat (first | (with_reducible first | exact HB.out | apply lA | apply lN | apply lD | refine lS ?_ GE148.out | refine lS ?_ GE149.out) | exact HB.out))⟩; clear BK148 BK149 HB hq_; have BK148 := n0_; have BK149 := n1_; have HB := n2_; clear n0_ n1_ n2_)); have hcz61_0 : w58.cell? ⟨gb149, 0, none⟩ = some (.int .i64 0) := (bC BK149.out 0).trans rfl; have hcz61_1 : w58.cell? ⟨gb149, 1, none⟩ = some (.string (⟨#[]⟩ : ByteArray)) := (bC BK149.out 1).trans rfl; have hcz61_2 : w58.cell? ⟨gb149, 2, none⟩ = some (.int .i64 0) := (bC BK149.out 2).trans rfl; have hfz61_0 := bF BK149.out 0; have hfz61_1 := bF BK149.out 1; have hfz61_2 := bF BK149.out 2))
    refine bodyPost_ret (results_cell_row rfl _ _ gb149 92 #[.int .i64 0, .string (⟨#[]⟩ : ByteArray), .int .i64 1] (0, 0) _ rfl (by (with_reducible repeat first | apply bN | apply bD | apply bA); refine bP (cs := #[.int .i64 0, .string (⟨#[]⟩ : ByteArray), .int .i64 0]) ?_ 2 _ rfl; (with_reducible repeat first | apply bN | apply bD | apply bA); refine bP (cs := #[.int .i64 0, .string (⟨#[]⟩ : ByteArray), .int .i64 0]) ?_ 1 _ rfl; (with_reducible repeat first | apply bN | apply bD | apply bA); refine bP (cs := #[.int .i64 0, .string (⟨#[]⟩ : ByteArray), .int .i64 0]) ?_ 0 _ rfl; (with_reducible repeat first | apply bN | apply bD | apply bA); exact BK149.out) Try.underlying92 rfl (by kernel_rfl)) rfl ?_
    exact ⟨by first | rfl | (simp [errW_none, errW_some] <;> rfl) | (simp [*, errW_none, errW_some] <;> rfl), by repeat (first | (with_reducible first | exact HB.out | apply lA | apply lN | apply lD | refine lS ?_ GE148.out | refine lS ?_ GE149.out) | exact HB.out)⟩
  ·rw [if_neg c45] at H
   have c45b0 : (a1_0 == 1) = false := beq_eq_false_iff_ne.mpr c45
   have c45b1 : (a1_0 != 1) = true := bne_iff_ne.mpr c45
   simp only [Option.some.injEq, Prod.mk.injEq] at H
   obtain ⟨rfl, rfl, rfl⟩ := H
   go_enter Try.func50, Try.ntmps50
   go_wp2_with (first | ((with_reducible refine gate_dst (N := 3) rfl ?_); refine box_event ?hg (N := 3) ?hd (cs := #[.int .i64 a1_0, .int .i64 a1_1, .string a1_2, .string a1_3, .int .i64 a1_4, .int .i64 a1_5, .string a1_6]) (t := 81) ?hr ?_; (case hd => rfl); (case hg => rfl); (case hr => first | (go_simp; done) | (go_simp; rfl)); intro gb148 hg w62 hbox hb; have n0_ := mkA (zbS (by repeat (first | (with_reducible first | exact HB.out | apply lA | apply lN | apply lD) | exact HB.out)) hb); have n1_ := mkA (hbox); have n2_ := mkA ((by rw [hg]; exact (below_size (by repeat (first | (with_reducible first | exact HB.out | apply lA | apply lN | apply lD) | exact HB.out))) : w.heap.size ≤ gb148)); have n3_ := mkA ((by rw [hg]; exact (below_size (by repeat (first | (with_reducible first | exact HB.out | apply lA | apply lN | apply lD) | exact HB.out))) : w.heap.size ≤ gb148)); clear HB; have HB := n0_; have BK148 := n1_; have GW148 := n2_; have GE148 := n3_; clear n0_ n1_ n2_ n3_; clear hb hbox hg) | ((with_reducible refine gate_dst (N := 4) rfl ?_); refine box_event ?hg (N := 4) ?hd (cs := #[.int .i64 0, .string (⟨#[]⟩ : ByteArray), .int .i64 0]) (t := 92) ?hr ?_; (case hd => rfl); (case hg => rfl); (case hr => first | (go_simp; done) | (go_simp; rfl)); intro gb149 hg w63 hbox hb; have n0_ := mkA (bB (g := gb148) (o := .cells #[.int .i64 a1_0, .int .i64 a1_1, .string a1_2, .string a1_3, .int .i64 a1_4, .int .i64 a1_5, .string a1_6] 81 (0, 0)) (by (with_reducible repeat first | apply bN | apply bD | apply bA); exact BK148.out) hb); have n1_ := mkA (zbS (by repeat (first | (with_reducible first | exact HB.out | apply lA | apply lN | apply lD | refine lS ?_ GE148.out) | exact HB.out)) hb); have n2_ := mkA (hbox); have n3_ := mkA ((by rw [hg]; exact (below_size (by repeat (first | (with_reducible first | exact HB.out | apply lA | apply lN | apply lD | refine lS ?_ GE148.out) | exact HB.out))) : w.heap.size ≤ gb149)); have n4_ := mkA ((by rw [hg]; exact (below_size (by repeat (first | (with_reducible first | exact HB.out | apply lA | apply lN | apply lD | refine lS ?_ GE148.out) | exact HB.out))) : w.heap.size ≤ gb149)); have n5_ := mkA ((by rw [hg]; exact Nat.ne_of_lt (blk_lt (g := gb148) (o := .cells #[.int .i64 a1_0, .int .i64 a1_1, .string a1_2, .string a1_3, .int .i64 a1_4, .int .i64 a1_5, .string a1_6] 81 (0, 0)) (by (with_reducible repeat first | apply bN | apply bD | apply bA); exact BK148.out)) : gb148 ≠ gb149)); have n6_ := mkA ((by rw [hg]; exact Nat.ne_of_gt (blk_lt (g := gb148) (o := .cells #[.int .i64 a1_0, .int .i64 a1_1, .string a1_2, .string a1_3, .int .i64 a1_4, .int .i64 a1_5, .string a1_6] 81 (0, 0)) (by (with_reducible repeat first | apply bN | apply bD | apply bA); exact BK148.out)) : gb149 ≠ gb148)); clear BK148; clear HB; have BK148 := n0_; have HB := n1_; have BK149 := n2_; have GW149 := n3_; have GE149 := n4_; have NB148_149 := n5_; have NB149_148 := n6_; clear n0_ n1_ n2_ n3_ n4_ n5_ n6_; clear hb hbox hg; have hnb64 := NB148_149.out; have hnc64 := NB149_148.out; have hcz65_0 : w63.cell? ⟨gb148, 0, none⟩ = some (.int .i64 a1_0) := (bC BK148.out 0).trans rfl; have hcz65_1 : w63.cell? ⟨gb148, 1, none⟩ = some (.int .i64 a1_1) := (bC BK148.out 1).trans rfl; have hcz65_2 : w63.cell? ⟨gb148, 2, none⟩ = some (.string a1_2) := (bC BK148.out 2).trans rfl; have hcz65_3 : w63.cell? ⟨gb148, 3, none⟩ = some (.string a1_3) := (bC BK148.out 3).trans rfl; have hcz65_4 : w63.cell? ⟨gb148, 4, none⟩ = some (.int .i64 a1_4) := (bC BK148.out 4).trans rfl; have hcz65_5 : w63.cell? ⟨gb148, 5, none⟩ = some (.int .i64 a1_5) := (bC BK148.out 5).trans rfl; have hcz65_6 : w63.cell? ⟨gb148, 6, none⟩ = some (.string a1_6) := (bC BK148.out 6).trans rfl; have hfz65_0 := bF BK148.out 0; have hfz65_1 := bF BK148.out 1; have hfz65_2 := bF BK148.out 2; have hfz65_3 := bF BK148.out 3; have hfz65_4 := bF BK148.out 4; have hfz65_5 := bF BK148.out 5; have hfz65_6 := bF BK148.out 6; have hcz66_0 : w63.cell? ⟨gb149, 0, none⟩ = some (.int .i64 0) := (bC BK149.out 0).trans rfl; have hcz66_1 : w63.cell? ⟨gb149, 1, none⟩ = some (.string (⟨#[]⟩ : ByteArray)) := (bC BK149.out 1).trans rfl; have hcz66_2 : w63.cell? ⟨gb149, 2, none⟩ = some (.int .i64 0) := (bC BK149.out 2).trans rfl; have hfz66_0 := bF BK149.out 0; have hfz66_1 := bF BK149.out 1; have hfz66_2 := bF BK149.out 2))
   refine bodyPost_ret (results_cell_row rfl _ _ gb149 92 #[.int .i64 a1_5, .string a1_6, .int .i64 0] (0, 0) _ rfl (by (with_reducible repeat first | apply bN | apply bD | apply bA); refine bP (cs := #[.int .i64 a1_5, .string a1_6, .int .i64 0]) ?_ 2 _ rfl; (with_reducible repeat first | apply bN | apply bD | apply bA); refine bP (cs := #[.int .i64 a1_5, .string (⟨#[]⟩ : ByteArray), .int .i64 0]) ?_ 1 _ rfl; (with_reducible repeat first | apply bN | apply bD | apply bA); refine bP (cs := #[.int .i64 0, .string (⟨#[]⟩ : ByteArray), .int .i64 0]) ?_ 0 _ rfl; (with_reducible repeat first | apply bN | apply bD | apply bA); exact BK149.out) Try.underlying92 rfl (by kernel_rfl)) rfl ?_
   exact ⟨by first | rfl | (simp [errW_none, errW_some] <;> rfl) | (simp [*, errW_none, errW_some] <;> rfl), by repeat (first | (with_reducible first | exact HB.out | apply lA | apply lN | apply lD | refine lS ?_ GE148.out | refine lS ?_ GE149.out) | exact HB.out)⟩
mutual
def weighlockref01_Unchain.j1 : Nat → ByteArray → Int → Option (Int × Int × Int)
 | 0, _, _ => none
 | k + 1, x0, x3 => if x3 = 10 then (weighlockref01_Unchain.j2 k x0 x3 true) else (if x3 = 9 then (if (x0.size : Int) > 9 then (if 9 < (x0.size : Int) then (weighlockref01_Unchain.j2 k x0 x3 (decide ((bt x0 9) > 1))) else (none)) else (weighlockref01_Unchain.j2 k x0 x3 false)) else (weighlockref01_Unchain.j2 k x0 x3 false))
def weighlockref01_Unchain.j2 : Nat → ByteArray → Int → Bool → Option (Int × Int × Int)
 | 0, _, _, _ => none
 | k + 1, x0, x3, x37 => if x37 = true then (some (0, 0, 4)) else (if x3 = (x0.size : Int) then (some (0, 0, 3)) else (if x3 > 0 then (if 0 ≤ x3 then (if x3 < (x0.size : Int) then (weighlockref01_Unchain.j3 k x0 x3 ((bt x0 x3) == 0)) else (none)) else (none)) else (weighlockref01_Unchain.j3 k x0 x3 false)))
def weighlockref01_Unchain.j3 : Nat → ByteArray → Int → Bool → Option (Int × Int × Int)
 | 0, _, _, _ => none
 | k + 1, x0, x3, x51 => if x51 = true then (some (0, 0, 4)) else (weighlockref01_Unchain.l1 k x0 x3 0 x3)
def weighlockref01_Unchain.l1 : Nat → ByteArray → Int → Int → Int → Option (Int × Int × Int)
 | 0, _, _, _, _ => none
 | k + 1, x0, x3, x4, x5 => if x5 ≥ 0 then (if 0 ≤ x5 then (if x5 < (x0.size : Int) then (weighlockref01_Unchain.l1 k x0 x3 (IntKind.u64.wrap ((IntKind.u64.wrap (128 * x4)) + (IntKind.u64.wrap (Int.tmod (bt x0 x5) 128)))) (wrap64 (x5 - 1))) else (none)) else (none)) else (some (x4, wrap64 (x3 + 1), 0))
def weighlockref01_Unchain.l0 : Nat → ByteArray → Int → Option (Int × Int × Int)
 | 0, _, _ => none
 | k + 1, x0, x3 => if x3 < (x0.size : Int) then (if x3 < 10 then (if 0 ≤ x3 then (if (bt x0 x3) ≥ 128 then (weighlockref01_Unchain.l0 k x0 (wrap64 (x3 + 1))) else (weighlockref01_Unchain.j1 k x0 x3)) else (none)) else (weighlockref01_Unchain.j1 k x0 x3)) else (weighlockref01_Unchain.j1 k x0 x3)
end
def weighlockref01_Unchain.f (k : Nat) (a0 : ByteArray) : Option (Int × Int × Int) := weighlockref01_Unchain.l0 k a0 0
theorem weighlockref01_Unchain.mono_l : ∀ k, (∀ y0 y1, LeO (weighlockref01_Unchain.j1 k y0 y1) (weighlockref01_Unchain.j1 (k + 1) y0 y1)) ∧ (∀ y0 y1 y2, LeO (weighlockref01_Unchain.j2 k y0 y1 y2) (weighlockref01_Unchain.j2 (k + 1) y0 y1 y2)) ∧ (∀ y0 y1 y2, LeO (weighlockref01_Unchain.j3 k y0 y1 y2) (weighlockref01_Unchain.j3 (k + 1) y0 y1 y2)) ∧ (∀ y0 y1 y2 y3, LeO (weighlockref01_Unchain.l1 k y0 y1 y2 y3) (weighlockref01_Unchain.l1 (k + 1) y0 y1 y2 y3)) ∧ (∀ y0 y1, LeO (weighlockref01_Unchain.l0 k y0 y1) (weighlockref01_Unchain.l0 (k + 1) y0 y1))
 | 0 => ⟨fun _ _ r h => by simp [weighlockref01_Unchain.j1] at h, fun _ _ _ r h => by simp [weighlockref01_Unchain.j2] at h, fun _ _ _ r h => by simp [weighlockref01_Unchain.j3] at h, fun _ _ _ _ r h => by simp [weighlockref01_Unchain.l1] at h, fun _ _ r h => by simp [weighlockref01_Unchain.l0] at h⟩
 | k + 1 => by
  obtain ⟨ih0, ih1, ih2, ih3, ih4⟩ := weighlockref01_Unchain.mono_l k
  refine ⟨?_, ?_, ?_, ?_, ?_⟩
  ·intro y0 y1
   unfold weighlockref01_Unchain.j1
   repeat' first
   | (with_reducible exact ih0 _ _)
   | (with_reducible exact ih1 _ _ _)
   | (with_reducible exact ih2 _ _ _)
   | (with_reducible exact ih3 _ _ _ _)
   | (with_reducible exact ih4 _ _)
   | (with_reducible exact LeO.refl _)
   | (with_reducible exact LeO.none _)
   | (with_reducible refine LeO.ite ?_ ?_)
   | (with_reducible refine LeO.bind ?_ (fun _ => ?_))
   | exact ih0 _ _
   | exact ih1 _ _ _
   | exact ih2 _ _ _
   | exact ih3 _ _ _ _
   | exact ih4 _ _
   | exact LeO.none _
   | refine LeO.ite ?_ ?_
   | refine LeO.bind ?_ (fun _ => ?_)
  ·intro y0 y1 y2
   unfold weighlockref01_Unchain.j2
   repeat' first
   | (with_reducible exact ih0 _ _)
   | (with_reducible exact ih1 _ _ _)
   | (with_reducible exact ih2 _ _ _)
   | (with_reducible exact ih3 _ _ _ _)
   | (with_reducible exact ih4 _ _)
   | (with_reducible exact LeO.refl _)
   | (with_reducible exact LeO.none _)
   | (with_reducible refine LeO.ite ?_ ?_)
   | (with_reducible refine LeO.bind ?_ (fun _ => ?_))
   | exact ih0 _ _
   | exact ih1 _ _ _
   | exact ih2 _ _ _
   | exact ih3 _ _ _ _
   | exact ih4 _ _
   | exact LeO.none _
   | refine LeO.ite ?_ ?_
   | refine LeO.bind ?_ (fun _ => ?_)
  ·intro y0 y1 y2
   unfold weighlockref01_Unchain.j3
   repeat' first
   | (with_reducible exact ih0 _ _)
   | (with_reducible exact ih1 _ _ _)
   | (with_reducible exact ih2 _ _ _)
   | (with_reducible exact ih3 _ _ _ _)
   | (with_reducible exact ih4 _ _)
   | (with_reducible exact LeO.refl _)
   | (with_reducible exact LeO.none _)
   | (with_reducible refine LeO.ite ?_ ?_)
   | (with_reducible refine LeO.bind ?_ (fun _ => ?_))
   | exact ih0 _ _
   | exact ih1 _ _ _
   | exact ih2 _ _ _
   | exact ih3 _ _ _ _
   | exact ih4 _ _
   | exact LeO.none _
   | refine LeO.ite ?_ ?_
   | refine LeO.bind ?_ (fun _ => ?_)
  ·intro y0 y1 y2 y3
   unfold weighlockref01_Unchain.l1
   repeat' first
   | (with_reducible exact ih0 _ _)
   | (with_reducible exact ih1 _ _ _)
   | (with_reducible exact ih2 _ _ _)
   | (with_reducible exact ih3 _ _ _ _)
   | (with_reducible exact ih4 _ _)
   | (with_reducible exact LeO.refl _)
   | (with_reducible exact LeO.none _)
   | (with_reducible refine LeO.ite ?_ ?_)
   | (with_reducible refine LeO.bind ?_ (fun _ => ?_))
   | exact ih0 _ _
   | exact ih1 _ _ _
   | exact ih2 _ _ _
   | exact ih3 _ _ _ _
   | exact ih4 _ _
   | exact LeO.none _
   | refine LeO.ite ?_ ?_
   | refine LeO.bind ?_ (fun _ => ?_)
  ·intro y0 y1
   unfold weighlockref01_Unchain.l0
   repeat' first
   | (with_reducible exact ih0 _ _)
   | (with_reducible exact ih1 _ _ _)
   | (with_reducible exact ih2 _ _ _)
   | (with_reducible exact ih3 _ _ _ _)
   | (with_reducible exact ih4 _ _)
   | (with_reducible exact LeO.refl _)
   | (with_reducible exact LeO.none _)
   | (with_reducible refine LeO.ite ?_ ?_)
   | (with_reducible refine LeO.bind ?_ (fun _ => ?_))
   | exact ih0 _ _
   | exact ih1 _ _ _
   | exact ih2 _ _ _
   | exact ih3 _ _ _ _
   | exact ih4 _ _
   | exact LeO.none _
   | refine LeO.ite ?_ ?_
   | refine LeO.bind ?_ (fun _ => ?_)
theorem weighlockref01_Unchain.mono : ∀ a0 k, LeO (weighlockref01_Unchain.f k a0) (weighlockref01_Unchain.f (k + 1) a0) := by
 intro a0 k
 obtain ⟨ih0, ih1, ih2, ih3, ih4⟩ := weighlockref01_Unchain.mono_l k
 unfold weighlockref01_Unchain.f
 repeat' first
   | (with_reducible exact ih0 _ _)
   | (with_reducible exact ih1 _ _ _)
   | (with_reducible exact ih2 _ _ _)
   | (with_reducible exact ih3 _ _ _ _)
   | (with_reducible exact ih4 _ _)
   | (with_reducible exact LeO.refl _)
   | (with_reducible exact LeO.none _)
   | (with_reducible refine LeO.ite ?_ ?_)
   | (with_reducible refine LeO.bind ?_ (fun _ => ?_))
   | exact ih0 _ _
   | exact ih1 _ _ _
   | exact ih2 _ _ _
   | exact ih3 _ _ _ _
   | exact ih4 _ _
   | exact LeO.none _
   | refine LeO.ite ?_ ?_
   | refine LeO.bind ?_ (fun _ => ?_)
set_option maxHeartbeats 8000000 in
set_option maxRecDepth 100000 in
theorem weighlockref01_Unchain.calls (k : Nat) (a0 : ByteArray) (r1 : Int) (r2 : Int) (r3 : Int) (w : World) (h : weighlockref01_Unchain.f k a0 = some (r1, r2, r3)) :
  Calls Try.prog 140 #[.string a0] w fun e w' => e = .returned (.agg #[.int .u64 r1, .int .i64 r2, .int .i64 r3]) ∧ Below w.heap.size w w' := by
 have hu216 := Try.underlying216
 have HB := mkA (Below.refl w.heap.size w)
 have H : (weighlockref01_Unchain.l0 k a0 0) = some (r1, r2, r3) := h
 clear h
 have HC2 := mkA H
 clear H
 go_enter Try.func140, Try.ntmps140
 go_upto_block 0 with (first | ((with_reducible refine gate_dst (N := 2) rfl ?_); (try (refine gate_guard (by rfl) ?_; dsimp only)); refine box_event ?hg (N := 2) ?hd (cs := #[.int .u64 0, .int .i64 0, .int .i64 0]) (t := 216) ?hr ?_; (case hd => rfl); (case hg => rfl); (case hr => first | (go_simp; done) | (go_simp; rfl)); intro gb159 hg w3 hbox hb; have n0_ := mkA (zbS (by repeat (first | (with_reducible first | exact HB.out | apply lA | apply lN | apply lD) | exact HB.out)) hb); have n1_ := mkA (hbox); have n2_ := mkA ((by rw [hg]; exact (below_size (by repeat (first | (with_reducible first | exact HB.out | apply lA | apply lN | apply lD) | exact HB.out))) : w.heap.size ≤ gb159)); have n3_ := mkA ((by rw [hg]; exact (below_size (by repeat (first | (with_reducible first | exact HB.out | apply lA | apply lN | apply lD) | exact HB.out))) : w.heap.size ≤ gb159)); clear HB; have HB := n0_; have BK159 := n1_; have GW159 := n2_; have GE159 := n3_; clear n0_ n1_ n2_ n3_; clear hb hbox hg))
 (try simp only [Act.put, zsI, zs0, zs1])
 go_cut [3] (fun v3 wc => ∃ (kq : Nat) (x3_1 : Int), v3 = .int .i64 x3_1 ∧ Aside0 (weighlockref01_Unchain.j1 kq a0 x3_1 = some (r1, r2, r3)) ∧ Aside0 (kq ≤ k) ∧ Aside0 (wc.heap[gb159]? = some (.cells #[.int .u64 0, .int .i64 0, .int .i64 0] 216 (0, 0))) ∧ Aside0 (Below w.heap.size w wc))
 case first =>
  have H := HC2.out
  clear HC2
  have H' := mkA H
  clear H
  go_wp2
  go_loopg [3] k (fun kq v3 w' => ∃ (x3_1 : Int), v3 = .int .i64 x3_1 ∧ Aside0 (weighlockref01_Unchain.l0 kq a0 x3_1 = some (r1, r2, r3)) ∧ Aside0 (kq ≤ k) ∧ Aside0 (w'.heap[gb159]? = some (.cells #[.int .u64 0, .int .i64 0, .int .i64 0] 216 (0, 0))) ∧ Aside0 (Below w.heap.size w w'))
  case atStart => exact ⟨(0), (by first | rfl | (simp; done) | (simp [*]; done)), H', ⟨Nat.le_refl _⟩, ⟨by (with_reducible repeat first | apply bN | apply bD | apply bA); exact BK159.out⟩, ⟨by repeat (first | (with_reducible first | exact HB.out | apply lA | apply lN | apply lD | refine lS ?_ GE159.out) | exact HB.out)⟩⟩
  case round =>
   clear H'
   try clear c1
   try clear p2
   obtain ⟨x3_1, rfl, HA, HK1, BK159, HB⟩ := hrel
   cases gk with
   | zero => exact absurd HA.out (by simp [weighlockref01_Unchain.l0])
   | succ k1 =>
    have H := HA.out
    clear HA
    simp only [weighlockref01_Unchain.l0] at H
    by_cases c4 : x3_1 < (a0.size : Int)
    ·rw [if_pos c4] at H
     have c4b0 : decide (x3_1 < (a0.size : Int)) = true := decide_eq_true c4
     clear c4
     (first | rw [c4b0] | (simp only [i64_w, i32_w]; rw [c4b0]) | skip)
     by_cases c5 : x3_1 < 10
     ·rw [if_pos c5] at H
      have c5b0 : decide (x3_1 < 10) = true := decide_eq_true c5
      clear c5
      by_cases c6 : 0 ≤ x3_1
      ·rw [if_pos c6] at H
       have c6b0 : decide (0 ≤ x3_1) = true := decide_eq_true c6
       clear c6
       by_cases c8 : (bt a0 x3_1) ≥ 128
       ·rw [if_pos c8] at H
        have c8b0 : decide (128 ≤ (bt a0 x3_1)) = true := decide_eq_true c8
        clear c8
        have H' := mkA H
        clear H
        have p7 : 0 ≤ (x3_1 : Int) := of_decide_eq_true (by first | (with_reducible assumption) | assumption)
        have q7 : x3_1 < (a0.size : Int) := of_decide_eq_true (by first | (with_reducible assumption) | assumption)
        have hx7 := bt_at a0 x3_1
        replace p7 := eq_true p7
        replace q7 := eq_true q7
        go_wp2
        go_roundg k1
        case measure => have := HK1.out; omega
        case rel => exact ⟨(wrap64 (x3_1 + 1)), (by first | rfl | (simp; done) | (simp [*]; done)), H', ⟨by have := HK1.out; omega⟩, ⟨by (with_reducible repeat first | apply bN | apply bD | apply bA); exact BK159.out⟩, ⟨by repeat (first | (with_reducible first | exact HB.out | apply lA | apply lN | apply lD | refine lS ?_ GE159.out) | exact HB.out)⟩⟩
       ·rw [if_neg c8] at H
        have c8b0 : decide (128 ≤ (bt a0 x3_1)) = false := decide_eq_false c8
        clear c8
        have H' := mkA H
        clear H
        have p7 : 0 ≤ (x3_1 : Int) := of_decide_eq_true (by first | (with_reducible assumption) | assumption)
        have q7 : x3_1 < (a0.size : Int) := of_decide_eq_true (by first | (with_reducible assumption) | assumption)
        have hx7 := bt_at a0 x3_1
        replace p7 := eq_true p7
        replace q7 := eq_true q7
        go_wp2
        go_meet
        case rel => exact ⟨_, (x3_1), (by first | rfl | (simp; done) | (simp [*]; done)), H', ⟨by have := HK1.out; first | omega | exact Nat.le_refl _⟩, ⟨by (with_reducible repeat first | apply bN | apply bD | apply bA); exact BK159.out⟩, ⟨by repeat (first | (with_reducible first | exact HB.out | apply lA | apply lN | apply lD | refine lS ?_ GE159.out) | exact HB.out)⟩⟩
      ·rw [if_neg c6] at H
       exact absurd H (by simp)
     ·rw [if_neg c5] at H
      have c5b0 : decide (x3_1 < 10) = false := decide_eq_false c5
      clear c5
      have H' := mkA H
      clear H
      go_wp2
      go_meet
      case rel => exact ⟨_, (x3_1), (by first | rfl | (simp; done) | (simp [*]; done)), H', ⟨by have := HK1.out; first | omega | exact Nat.le_refl _⟩, ⟨by (with_reducible repeat first | apply bN | apply bD | apply bA); exact BK159.out⟩, ⟨by repeat (first | (with_reducible first | exact HB.out | apply lA | apply lN | apply lD | refine lS ?_ GE159.out) | exact HB.out)⟩⟩
    ·rw [if_neg c4] at H
     have c4b0 : decide (x3_1 < (a0.size : Int)) = false := decide_eq_false c4
     clear c4
     (first | rw [c4b0] | (simp only [i64_w, i32_w]; rw [c4b0]) | skip)
     have H' := mkA H
     clear H
     go_wp2
     go_meet
     case rel => exact ⟨_, (x3_1), (by first | rfl | (simp; done) | (simp [*]; done)), H', ⟨by have := HK1.out; first | omega | exact Nat.le_refl _⟩, ⟨by (with_reducible repeat first | apply bN | apply bD | apply bA); exact BK159.out⟩, ⟨by repeat (first | (with_reducible first | exact HB.out | apply lA | apply lN | apply lD | refine lS ?_ GE159.out) | exact HB.out)⟩⟩
 case rest =>
  clear HC2
  try clear c1
  try clear p2
  try clear c4
  try clear c4b0
  try clear c5
  try clear c5b0
  try clear c6
  try clear c6b0
  try clear p6
  try clear p7
  try clear q7
  try clear hx7
  try clear c8
  try clear c8b0
  try clear p2
  try clear p7
  try clear q7
  obtain ⟨kq, x3_1, rfl, HA, HJ1, BK159, HB⟩ := hcut
  cases kq with
  | zero => exact absurd HA.out (by simp [weighlockref01_Unchain.j1])
  | succ kj1 =>
   have H := HA.out
   clear HA
   simp only [weighlockref01_Unchain.j1] at H
   have HC9 := mkA H
   clear H
   go_upto_region 4 with (fail)
   go_cut [37] (fun v37 wc => ∃ (kq : Nat) (x37_8 : Bool), v37 = .bool x37_8 ∧ Aside0 (weighlockref01_Unchain.j2 kq a0 x3_1 x37_8 = some (r1, r2, r3)) ∧ Aside0 (kq ≤ kj1) ∧ Aside0 (wc.heap[gb159]? = some (.cells #[.int .u64 0, .int .i64 0, .int .i64 0] 216 (0, 0))) ∧ Aside0 (Below w.heap.size w wc))
   case first =>
    have H := HC9.out
    clear HC9
    by_cases c10 : x3_1 = 10
    ·rw [if_pos c10] at H
     have c10b0 : (x3_1 == 10) = true := beq_iff_eq.mpr c10
     have c10b1 : (x3_1 != 10) = false := bne_eq_false_iff_eq.mpr c10
     clear c10
     (first | rw [c10b0] | (simp only [i64_w, i32_w]; rw [c10b0]) | skip)
     have H' := mkA H
     clear H
     go_wp2
     go_meet
     case rel => exact ⟨_, (true), (by first | rfl | (simp; done) | (simp [*]; done)), H', ⟨by have := HJ1.out; first | omega | exact Nat.le_refl _⟩, ⟨by (with_reducible repeat first | apply bN | apply bD | apply bA); exact BK159.out⟩, ⟨by repeat (first | (with_reducible first | exact HB.out | apply lA | apply lN | apply lD | refine lS ?_ GE159.out) | exact HB.out)⟩⟩
    ·rw [if_neg c10] at H
     have c10b0 : (x3_1 == 10) = false := beq_eq_false_iff_ne.mpr c10
     have c10b1 : (x3_1 != 10) = true := bne_iff_ne.mpr c10
     (first | rw [c10b0] | (simp only [i64_w, i32_w]; rw [c10b0]) | skip)
     by_cases c11 : x3_1 = 9
     ·rw [if_pos c11] at H
      have c11b0 : (x3_1 == 9) = true := beq_iff_eq.mpr c11
      have c11b1 : (x3_1 != 9) = false := bne_eq_false_iff_eq.mpr c11
      clear c11
      by_cases c12 : (a0.size : Int) > 9
      ·rw [if_pos c12] at H
       have c12b0 : decide (9 < (a0.size : Int)) = true := decide_eq_true c12
       have c12b1 : decide (9 < a0.size) = true := decide_eq_true (by omega)
       clear c12
       by_cases c13 : 9 < (a0.size : Int)
       ·rw [if_pos c13] at H
        have c13b0 : decide (9 < (a0.size : Int)) = true := decide_eq_true c13
        have c13b1 : decide (9 < a0.size) = true := decide_eq_true (by omega)
        clear c13
        have H' := mkA H
        clear H
        have p14 : 0 ≤ (9 : Int) := (by omega)
        have q14 : 9 < a0.size := (by have : (9 : Int) < (a0.size : Int) := of_decide_eq_true (by first | (with_reducible assumption) | assumption); omega)
        have hx14 : ∀ h : 9 < a0.size, ((a0[9]'h).toNat : Int) = bt a0 9 := bt_at a0 9
        clear p14
        have qi14 : (9 < (a0.size : Int)) = True := eq_true (of_decide_eq_true (by first | (with_reducible assumption) | assumption))
        replace q14 := eq_true q14
        go_wp2
        go_meet
        case rel => exact ⟨_, (decide ((bt a0 9) > 1)), (by first | rfl | (simp; done) | (simp [*]; done)), H', ⟨by have := HJ1.out; first | omega | exact Nat.le_refl _⟩, ⟨by (with_reducible repeat first | apply bN | apply bD | apply bA); exact BK159.out⟩, ⟨by repeat (first | (with_reducible first | exact HB.out | apply lA | apply lN | apply lD | refine lS ?_ GE159.out) | exact HB.out)⟩⟩
       ·rw [if_neg c13] at H
        exact absurd H (by simp)
      ·rw [if_neg c12] at H
       have c12b0 : decide (9 < (a0.size : Int)) = false := decide_eq_false c12
       have c12b1 : decide (9 < a0.size) = false := decide_eq_false (by omega)
       clear c12
       have H' := mkA H
       clear H
       go_wp2
       go_meet
       case rel => exact ⟨_, (false), (by first | rfl | (simp; done) | (simp [*]; done)), H', ⟨by have := HJ1.out; first | omega | exact Nat.le_refl _⟩, ⟨by (with_reducible repeat first | apply bN | apply bD | apply bA); exact BK159.out⟩, ⟨by repeat (first | (with_reducible first | exact HB.out | apply lA | apply lN | apply lD | refine lS ?_ GE159.out) | exact HB.out)⟩⟩
     ·rw [if_neg c11] at H
      have c11b0 : (x3_1 == 9) = false := beq_eq_false_iff_ne.mpr c11
      have c11b1 : (x3_1 != 9) = true := bne_iff_ne.mpr c11
      have H' := mkA H
      clear H
      go_wp2
      go_meet
      case rel => exact ⟨_, (false), (by first | rfl | (simp; done) | (simp [*]; done)), H', ⟨by have := HJ1.out; first | omega | exact Nat.le_refl _⟩, ⟨by (with_reducible repeat first | apply bN | apply bD | apply bA); exact BK159.out⟩, ⟨by repeat (first | (with_reducible first | exact HB.out | apply lA | apply lN | apply lD | refine lS ?_ GE159.out) | exact HB.out)⟩⟩
   case rest =>
    clear HC9
    try clear c1
    try clear p1
    try clear q1
    try clear hx1
    try clear qi1
    try clear p2
    try clear c4
    try clear c4b0
    try clear c5
    try clear c5b0
    try clear c6
    try clear c6b0
    try clear p6
    try clear p7
    try clear q7
    try clear hx7
    try clear c8
    try clear c8b0
    try clear c10
    try clear c10b0
    try clear c10b1
    try clear c11
    try clear c11b0
    try clear c11b1
    try clear c12
    try clear c12b0
    try clear c12b1
    try clear c13
    try clear c13b0
    try clear c13b1
    try clear c14
    try clear p14
    try clear q14
    try clear hx14
    try clear qi14
    try clear p14
    try clear p2
    try clear p6
    try clear p7
    try clear q14
    try clear q7
    obtain ⟨kq, x37_8, rfl, HA, HJ8, BK159, HB⟩ := hcut
    cases kq with
    | zero => exact absurd HA.out (by simp [weighlockref01_Unchain.j2])
    | succ kj8 =>
     have H := HA.out
     clear HA
     simp only [weighlockref01_Unchain.j2] at H
     by_cases c15 : x37_8 = true
     ·subst c15
      have H1 : (some (0, 0, 4)) = some (r1, r2, r3) := by rw [if_pos rfl] at H; exact H
      clear H
      have H := H1
      clear H1
      simp only [Option.some.injEq, Prod.mk.injEq] at H
      obtain ⟨rfl, rfl, rfl⟩ := H
      have hcz16_0 : wc.cell? ⟨gb159, 0, none⟩ = some (.int .u64 0) := (bC BK159.out 0).trans rfl
      have hcz16_1 : wc.cell? ⟨gb159, 1, none⟩ = some (.int .i64 0) := (bC BK159.out 1).trans rfl
      have hcz16_2 : wc.cell? ⟨gb159, 2, none⟩ = some (.int .i64 0) := (bC BK159.out 2).trans rfl
      have hfz16_0 := bF BK159.out 0
      have hfz16_1 := bF BK159.out 1
      have hfz16_2 := bF BK159.out 2
      go_wp2
      refine bodyPost_ret (results_cell_row rfl _ _ gb159 216 #[.int .u64 0, .int .i64 0, .int .i64 4] (0, 0) _ rfl (by (with_reducible repeat first | apply bN | apply bD | apply bA); refine bP (cs := #[.int .u64 0, .int .i64 0, .int .i64 0]) ?_ 2 _ rfl; (with_reducible repeat first | apply bN | apply bD | apply bA); refine bP (cs := #[.int .u64 0, .int .i64 0, .int .i64 0]) ?_ 1 _ rfl; (with_reducible repeat first | apply bN | apply bD | apply bA); refine bP (cs := #[.int .u64 0, .int .i64 0, .int .i64 0]) ?_ 0 _ rfl; (with_reducible repeat first | apply bN | apply bD | apply bA); exact BK159.out) Try.underlying216 rfl (by kernel_rfl)) rfl ?_
      exact ⟨by first | rfl | (simp [errW_none, errW_some] <;> rfl) | (simp [*, errW_none, errW_some] <;> rfl), by repeat (first | (with_reducible first | exact HB.out | apply lA | apply lN | apply lD | refine lS ?_ GE159.out) | exact HB.out)⟩
     ·replace c15 := Bool.eq_false_iff.mpr c15
      subst c15
      have H1 : (if x3_1 = (a0.size : Int) then (some (0, 0, 3)) else (if x3_1 > 0 then (if 0 ≤ x3_1 then (if x3_1 < (a0.size : Int) then (weighlockref01_Unchain.j3 kj8 a0 x3_1 ((bt a0 x3_1) == 0)) else (none)) else (none)) else (weighlockref01_Unchain.j3 kj8 a0 x3_1 false))) = some (r1, r2, r3) := by rw [if_neg (show ¬ (false = true) by decide)] at H; exact H
      clear H
      have H := H1
      clear H1
      by_cases c17 : x3_1 = (a0.size : Int)
      ·rw [if_pos c17] at H
       have c17b0 : (x3_1 == (a0.size : Int)) = true := beq_iff_eq.mpr c17
       have c17b1 : (x3_1 != (a0.size : Int)) = false := bne_eq_false_iff_eq.mpr c17
       clear c17
       simp only [Option.some.injEq, Prod.mk.injEq] at H
       obtain ⟨rfl, rfl, rfl⟩ := H
       have hcz18_0 : wc.cell? ⟨gb159, 0, none⟩ = some (.int .u64 0) := (bC BK159.out 0).trans rfl
       have hcz18_1 : wc.cell? ⟨gb159, 1, none⟩ = some (.int .i64 0) := (bC BK159.out 1).trans rfl
       have hcz18_2 : wc.cell? ⟨gb159, 2, none⟩ = some (.int .i64 0) := (bC BK159.out 2).trans rfl
       have hfz18_0 := bF BK159.out 0
       have hfz18_1 := bF BK159.out 1
       have hfz18_2 := bF BK159.out 2
       go_wp2
       refine bodyPost_ret (results_cell_row rfl _ _ gb159 216 #[.int .u64 0, .int .i64 0, .int .i64 3] (0, 0) _ rfl (by (with_reducible repeat first | apply bN | apply bD | apply bA); refine bP (cs := #[.int .u64 0, .int .i64 0, .int .i64 0]) ?_ 2 _ rfl; (with_reducible repeat first | apply bN | apply bD | apply bA); refine bP (cs := #[.int .u64 0, .int .i64 0, .int .i64 0]) ?_ 1 _ rfl; (with_reducible repeat first | apply bN | apply bD | apply bA); refine bP (cs := #[.int .u64 0, .int .i64 0, .int .i64 0]) ?_ 0 _ rfl; (with_reducible repeat first | apply bN | apply bD | apply bA); exact BK159.out) Try.underlying216 rfl (by kernel_rfl)) rfl ?_
       exact ⟨by first | rfl | (simp [errW_none, errW_some] <;> rfl) | (simp [*, errW_none, errW_some] <;> rfl), by repeat (first | (with_reducible first | exact HB.out | apply lA | apply lN | apply lD | refine lS ?_ GE159.out) | exact HB.out)⟩
      ·rw [if_neg c17] at H
       have c17b0 : (x3_1 == (a0.size : Int)) = false := beq_eq_false_iff_ne.mpr c17
       have c17b1 : (x3_1 != (a0.size : Int)) = true := bne_iff_ne.mpr c17
       have HC19 := mkA H
       clear H
       go_upto_region 8 with (fail)
       go_cut [51] (fun v51 wc => ∃ (kq : Nat) (x51_18 : Bool), v51 = .bool x51_18 ∧ Aside0 (weighlockref01_Unchain.j3 kq a0 x3_1 x51_18 = some (r1, r2, r3)) ∧ Aside0 (kq ≤ kj8) ∧ Aside0 (wc.heap[gb159]? = some (.cells #[.int .u64 0, .int .i64 0, .int .i64 0] 216 (0, 0))) ∧ Aside0 (Below w.heap.size w wc))
       case first =>
        have H := HC19.out
        clear HC19
        by_cases c20 : x3_1 > 0
        ·rw [if_pos c20] at H
         have c20b0 : decide (0 < x3_1) = true := decide_eq_true c20
         clear c20
         (first | rw [c20b0] | (simp only [i64_w, i32_w]; rw [c20b0]) | skip)
         by_cases c21 : 0 ≤ x3_1
         ·rw [if_pos c21] at H
          have c21b0 : decide (0 ≤ x3_1) = true := decide_eq_true c21
          clear c21
          by_cases c22 : x3_1 < (a0.size : Int)
          ·rw [if_pos c22] at H
           have c22b0 : decide (x3_1 < (a0.size : Int)) = true := decide_eq_true c22
           clear c22
           have H' := mkA H
           clear H
           have p23 : 0 ≤ (x3_1 : Int) := of_decide_eq_true (by first | (with_reducible assumption) | assumption)
           have q23 : x3_1 < (a0.size : Int) := of_decide_eq_true (by first | (with_reducible assumption) | assumption)
           have hx23 := bt_at a0 x3_1
           replace p23 := eq_true p23
           replace q23 := eq_true q23
           go_wp2
           go_meet
           case rel => exact ⟨_, (((bt a0 x3_1) == 0)), (by first | rfl | (simp; done) | (simp [*]; done)), H', ⟨by have := HJ1.out; have := HJ8.out; first | omega | exact Nat.le_refl _⟩, ⟨by (with_reducible repeat first | apply bN | apply bD | apply bA); exact BK159.out⟩, ⟨by repeat (first | (with_reducible first | exact HB.out | apply lA | apply lN | apply lD | refine lS ?_ GE159.out) | exact HB.out)⟩⟩
          ·rw [if_neg c22] at H
           exact absurd H (by simp)
         ·rw [if_neg c21] at H
          exact absurd H (by simp)
        ·rw [if_neg c20] at H
         have c20b0 : decide (0 < x3_1) = false := decide_eq_false c20
         clear c20
         (first | rw [c20b0] | (simp only [i64_w, i32_w]; rw [c20b0]) | skip)
         have H' := mkA H
         clear H
         go_wp2
         go_meet
         case rel => exact ⟨_, (false), (by first | rfl | (simp; done) | (simp [*]; done)), H', ⟨by have := HJ1.out; have := HJ8.out; first | omega | exact Nat.le_refl _⟩, ⟨by (with_reducible repeat first | apply bN | apply bD | apply bA); exact BK159.out⟩, ⟨by repeat (first | (with_reducible first | exact HB.out | apply lA | apply lN | apply lD | refine lS ?_ GE159.out) | exact HB.out)⟩⟩
       case rest =>
        clear HC19
        try clear c1
        try clear p1
        try clear q1
        try clear hx1
        try clear qi1
        try clear c2
        try clear p2
        try clear q2
        try clear hx2
        try clear c4
        try clear c4b0
        try clear c5
        try clear c5b0
        try clear c6
        try clear c6b0
        try clear p6
        try clear p7
        try clear q7
        try clear hx7
        try clear c8
        try clear c8b0
        try clear c10
        try clear c10b0
        try clear c10b1
        try clear c11
        try clear c11b0
        try clear c11b1
        try clear c12
        try clear c12b0
        try clear c12b1
        try clear c13
        try clear c13b0
        try clear c13b1
        try clear c14
        try clear p14
        try clear q14
        try clear hx14
        try clear qi14
        try clear c15
        try clear c17
        try clear c17b0
        try clear c17b1
        try clear c20
        try clear c20b0
        try clear c21
        try clear c21b0
        try clear c22
        try clear c22b0
        try clear p23
        try clear q23
        try clear hx23
        try clear hcz16_0
        try clear hcz16_1
        try clear hcz16_2
        try clear hcz18_0
        try clear hcz18_1
        try clear hcz18_2
        try clear hfz16_0
        try clear hfz16_1
        try clear hfz16_2
        try clear hfz18_0
        try clear hfz18_1
        try clear hfz18_2
        try clear p1
        try clear p14
        try clear p2
        try clear p23
        try clear p6
        try clear p7
        try clear q1
        try clear q14
        try clear q23
        try clear q7
        obtain ⟨kq, x51_18, rfl, HA, HJ18, BK159, HB⟩ := hcut
        cases kq with
        | zero => exact absurd HA.out (by simp [weighlockref01_Unchain.j3])
        | succ kj18 =>
         have H := HA.out
         clear HA
         simp only [weighlockref01_Unchain.j3] at H
         by_cases c24 : x51_18 = true
         ·subst c24
          have H1 : (some (0, 0, 4)) = some (r1, r2, r3) := by rw [if_pos rfl] at H; exact H
          clear H
          have H := H1
          clear H1
          simp only [Option.some.injEq, Prod.mk.injEq] at H
          obtain ⟨rfl, rfl, rfl⟩ := H
          have hcz25_0 : wc.cell? ⟨gb159, 0, none⟩ = some (.int .u64 0) := (bC BK159.out 0).trans rfl
          have hcz25_1 : wc.cell? ⟨gb159, 1, none⟩ = some (.int .i64 0) := (bC BK159.out 1).trans rfl
          have hcz25_2 : wc.cell? ⟨gb159, 2, none⟩ = some (.int .i64 0) := (bC BK159.out 2).trans rfl
          have hfz25_0 := bF BK159.out 0
          have hfz25_1 := bF BK159.out 1
          have hfz25_2 := bF BK159.out 2
          go_wp2
          refine bodyPost_ret (results_cell_row rfl _ _ gb159 216 #[.int .u64 0, .int .i64 0, .int .i64 4] (0, 0) _ rfl (by (with_reducible repeat first | apply bN | apply bD | apply bA); refine bP (cs := #[.int .u64 0, .int .i64 0, .int .i64 0]) ?_ 2 _ rfl; (with_reducible repeat first | apply bN | apply bD | apply bA); refine bP (cs := #[.int .u64 0, .int .i64 0, .int .i64 0]) ?_ 1 _ rfl; (with_reducible repeat first | apply bN | apply bD | apply bA); refine bP (cs := #[.int .u64 0, .int .i64 0, .int .i64 0]) ?_ 0 _ rfl; (with_reducible repeat first | apply bN | apply bD | apply bA); exact BK159.out) Try.underlying216 rfl (by kernel_rfl)) rfl ?_
          exact ⟨by first | rfl | (simp [errW_none, errW_some] <;> rfl) | (simp [*, errW_none, errW_some] <;> rfl), by repeat (first | (with_reducible first | exact HB.out | apply lA | apply lN | apply lD | refine lS ?_ GE159.out) | exact HB.out)⟩
         ·replace c24 := Bool.eq_false_iff.mpr c24
          subst c24
          have H1 : (weighlockref01_Unchain.l1 kj18 a0 x3_1 0 x3_1) = some (r1, r2, r3) := by rw [if_neg (show ¬ (false = true) by decide)] at H; exact H
          clear H
          have H := H1
          clear H1
          have H' := mkA H
          clear H
          go_wp2
          go_loopg [4, 5] kj18 (fun kq v4 v5 w' => ∃ (x4_4 : Int) (x5_4 : Int), v4 = .int .u64 x4_4 ∧ v5 = .int .i64 x5_4 ∧ Aside0 (weighlockref01_Unchain.l1 kq a0 x3_1 x4_4 x5_4 = some (r1, r2, r3)) ∧ Aside0 (kq ≤ kj18) ∧ Aside0 (w'.heap[gb159]? = some (.cells #[.int .u64 0, .int .i64 0, .int .i64 0] 216 (0, 0))) ∧ Aside0 (Below w.heap.size w w'))
          case atStart => exact ⟨(0), (x3_1), (by first | rfl | (simp; done) | (simp [*]; done)), (by first | rfl | (simp; done) | (simp [*]; done)), H', ⟨Nat.le_refl _⟩, ⟨by (with_reducible repeat first | apply bN | apply bD | apply bA); exact BK159.out⟩, ⟨by repeat (first | (with_reducible first | exact HB.out | apply lA | apply lN | apply lD | refine lS ?_ GE159.out) | exact HB.out)⟩⟩
          case round =>
           clear H'
           try clear c1
           try clear p1
           try clear q1
           try clear hx1
           try clear qi1
           try clear c2
           try clear p2
           try clear q2
           try clear hx2
           try clear c4
           try clear c4b0
           try clear c5
           try clear c5b0
           try clear c6
           try clear c6b0
           try clear p6
           try clear p7
           try clear q7
           try clear hx7
           try clear c8
           try clear c8b0
           try clear c10
           try clear c10b0
           try clear c10b1
           try clear c11
           try clear c11b0
           try clear c11b1
           try clear c12
           try clear c12b0
           try clear c12b1
           try clear c13
           try clear c13b0
           try clear c13b1
           try clear c14
           try clear p14
           try clear q14
           try clear hx14
           try clear qi14
           try clear c15
           try clear c17
           try clear c17b0
           try clear c17b1
           try clear c20
           try clear c20b0
           try clear c21
           try clear c21b0
           try clear c22
           try clear c22b0
           try clear p23
           try clear q23
           try clear hx23
           try clear c24
           try clear hcz16_0
           try clear hcz16_1
           try clear hcz16_2
           try clear hcz18_0
           try clear hcz18_1
           try clear hcz18_2
           try clear hcz25_0
           try clear hcz25_1
           try clear hcz25_2
           try clear hfz16_0
           try clear hfz16_1
           try clear hfz16_2
           try clear hfz18_0
           try clear hfz18_1
           try clear hfz18_2
           try clear hfz25_0
           try clear hfz25_1
           try clear hfz25_2
           try clear p1
           try clear p14
           try clear p2
           try clear p23
           try clear p6
           try clear p7
           try clear q1
           try clear q14
           try clear q2
           try clear q23
           try clear q7
           obtain ⟨x4_4, x5_4, rfl, rfl, HA, HK4, BK159, HB⟩ := hrel
           cases gk with
           | zero => exact absurd HA.out (by simp [weighlockref01_Unchain.l1])
           | succ k4 =>
            have H := HA.out
            clear HA
            simp only [weighlockref01_Unchain.l1] at H
            by_cases c26 : x5_4 ≥ 0
            ·rw [if_pos c26] at H
             have c26b0 : decide (0 ≤ x5_4) = true := decide_eq_true c26
             clear c26
             by_cases c27 : 0 ≤ x5_4
             ·rw [if_pos c27] at H
              have c27b0 : decide (0 ≤ x5_4) = true := decide_eq_true c27
              clear c27
              by_cases c28 : x5_4 < (a0.size : Int)
              ·rw [if_pos c28] at H
               have c28b0 : decide (x5_4 < (a0.size : Int)) = true := decide_eq_true c28
               clear c28
               have H' := mkA H
               clear H
               have p29 : 0 ≤ (x5_4 : Int) := of_decide_eq_true (by first | (with_reducible assumption) | assumption)
               have q29 : x5_4 < (a0.size : Int) := of_decide_eq_true (by first | (with_reducible assumption) | assumption)
               have hx29 := bt_at a0 x5_4
               replace p29 := eq_true p29
               replace q29 := eq_true q29
               go_wp2
               go_roundg k4
               case measure => have := HJ1.out; have := HJ8.out; have := HJ18.out; have := HK4.out; omega
               case rel => exact ⟨(IntKind.u64.wrap ((IntKind.u64.wrap (128 * x4_4)) + (IntKind.u64.wrap (Int.tmod (bt a0 x5_4) 128)))), (wrap64 (x5_4 - 1)), (by first | rfl | (simp; done) | (simp [*]; done)), (by first | rfl | (simp; done) | (simp [*]; done)), H', ⟨by have := HJ1.out; have := HJ8.out; have := HJ18.out; have := HK4.out; omega⟩, ⟨by (with_reducible repeat first | apply bN | apply bD | apply bA); exact BK159.out⟩, ⟨by repeat (first | (with_reducible first | exact HB.out | apply lA | apply lN | apply lD | refine lS ?_ GE159.out) | exact HB.out)⟩⟩
              ·rw [if_neg c28] at H
               exact absurd H (by simp)
             ·rw [if_neg c27] at H
              exact absurd H (by simp)
            ·rw [if_neg c26] at H
             have c26b0 : decide (0 ≤ x5_4) = false := decide_eq_false c26
             clear c26
             simp only [Option.some.injEq, Prod.mk.injEq] at H
             obtain ⟨rfl, rfl, rfl⟩ := H
             have hcz30_0 : wr.cell? ⟨gb159, 0, none⟩ = some (.int .u64 0) := (bC BK159.out 0).trans rfl
             have hcz30_1 : wr.cell? ⟨gb159, 1, none⟩ = some (.int .i64 0) := (bC BK159.out 1).trans rfl
             have hcz30_2 : wr.cell? ⟨gb159, 2, none⟩ = some (.int .i64 0) := (bC BK159.out 2).trans rfl
             have hfz30_0 := bF BK159.out 0
             have hfz30_1 := bF BK159.out 1
             have hfz30_2 := bF BK159.out 2
             go_wp2
             refine bodyPost_ret (results_cell_row rfl _ _ gb159 216 #[.int .u64 x4_4, .int .i64 (wrap64 (x3_1 + 1)), .int .i64 0] (0, 0) _ rfl (by (with_reducible repeat first | apply bN | apply bD | apply bA); refine bP (cs := #[.int .u64 x4_4, .int .i64 (wrap64 (x3_1 + 1)), .int .i64 0]) ?_ 2 _ rfl; (with_reducible repeat first | apply bN | apply bD | apply bA); refine bP (cs := #[.int .u64 x4_4, .int .i64 0, .int .i64 0]) ?_ 1 _ rfl; (with_reducible repeat first | apply bN | apply bD | apply bA); refine bP (cs := #[.int .u64 0, .int .i64 0, .int .i64 0]) ?_ 0 _ rfl; (with_reducible repeat first | apply bN | apply bD | apply bA); exact BK159.out) Try.underlying216 rfl (by kernel_rfl)) rfl ?_
             exact ⟨by first | rfl | (simp [errW_none, errW_some] <;> rfl) | (simp [*, errW_none, errW_some] <;> rfl), by repeat (first | (with_reducible first | exact HB.out | apply lA | apply lN | apply lD | refine lS ?_ GE159.out) | exact HB.out)⟩
end Go.Proofs.Ytohhlkabejangaa.POf
