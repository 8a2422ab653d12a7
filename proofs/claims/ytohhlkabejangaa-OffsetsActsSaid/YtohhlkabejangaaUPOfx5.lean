import Derived.Test.YtohhlkabejangaaUPOfx0
import Derived.Test.YtohhlkabejangaaUPOfx4
-- halved
namespace Go.Proofs.Ytohhlkabejangaa.POf
open Go.Proofs.Ytohhlkabejangaa.Hand
open Go.RowKit Go.Proofs.YtohhlkabejangaaW.PrintWords Go.Proofs.YtohhlkabejangaaW.PrintLast Go.Proofs.YtohhlkabejangaaW.PrintMore
open Go.Proofs.YtohhlkabejangaaW.PrintWords renaming blk_drewN → bN, blk_drew → bD, blk_alloc → bA, below_alloc → lA, pw_below_drewN → lN, below_drew1 → lD, below_set → lS, blk_cell → bC, blk_frozen → bF, blk_put → bP, blk_below → bB
open Go.Proofs.YtohhlkabejangaaW.PrintWords.Aside0 renaming mk → mkA
open List renaming setIfInBounds_toArray → zsI, set_cons_zero → zs0, set_cons_succ → zs1
open Go.Proofs.YtohhlkabejangaaW.PrintWords renaming below_step → zbS
attribute [local go_sem] max2_int min2_int max_two min_two max_three min_three max_four min_four
set_option linter.unusedVariables false
set_option linter.unusedSimpArgs false
def offsets_entry.f (a0_0 : ByteArray) (a0_1 : ByteArray) (a0_2 : Int) (a1 : Int) : Option (Int × ByteArray) := (nums_Text.f a0_0).bind fun t121 => ((nums_Text.f a0_1).bind fun t122 => (if t121.size + t122.size ≤ 9223372036854775807 then ((nums_Chain.f (IntKind.u64.wrap (a0_2))).bind fun t123 => (if (t121 ++ t122).size + t123.size ≤ 9223372036854775807 then ((nums_Chain.f (IntKind.u64.wrap (a1))).bind fun t124 => (if ((t121 ++ t122) ++ t123).size + t124.size ≤ 9223372036854775807 then (some (1, ((t121 ++ t122) ++ t123) ++ t124)) else (none))) else (none))) else (none)))
def offsets_entry.T1 : Bool × List (List Nat × List Nat) := (true, [([], []), ([0], [0]), ([1], [1]), ([], []), ([3], [3]), ([4], [4]), ([5, 2], [5]), ([2, 6], [2, 6]), ([], []), ([8], [8]), ([9], [9]), ([10], [10]), ([11, 6], [11]), ([7, 12], [7, 12]), ([], []), ([14], [14]), ([15, 12], [15]), ([13, 16], [13, 16]), ([17], [17]), ([18, 16, 0, 1, 2, 3, 4, 5, 6, 7, 8, 9, 10, 11, 12, 13, 14, 15, 16, 17, 18], [18])])
def offsets_entry.B1 : List Nat := [0, 1, 3, 0, 8, 24, 63, 127, 0, 256, 768, 1792, 3967, 8191, 0, 16384, 57215, 131071, 262143, 524287]
theorem offsets_entry.tab1 : rtab .any (opsOf Try.f99 1) = offsets_entry.T1 := by kernel_rfl
theorem offsets_entry.bits1 : waitsOk offsets_entry.T1.2 offsets_entry.B1 = true := by kernel_rfl
set_option maxHeartbeats 8000000 in
set_option maxRecDepth 100000 in
theorem offsets_entry.calls (a0_0 : ByteArray) (a0_1 : ByteArray) (a0_2 : Int) (a1 : Int) (r1 : Int) (r2 : ByteArray) (w : World) (h : offsets_entry.f a0_0 a0_1 a0_2 a1 = some (r1, r2)) :
  Calls Try.prog 99 #[.agg #[.string a0_0, .string a0_1, .int .i64 a0_2], .int .i64 a1] w fun e w' => e = .returned (.agg #[.int .i64 r1, .string r2]) ∧ Below w.heap.size w w' := by
 have hu74 := Try.underlying74
 have hu79 := Try.underlying79
 have HB := mkA (Below.refl w.heap.size w)
 have H : ((nums_Text.f a0_0).bind fun t121 => ((nums_Text.f a0_1).bind fun t122 => (if t121.size + t122.size ≤ 9223372036854775807 then ((nums_Chain.f (IntKind.u64.wrap (a0_2))).bind fun t123 => (if (t121 ++ t122).size + t123.size ≤ 9223372036854775807 then ((nums_Chain.f (IntKind.u64.wrap (a1))).bind fun t124 => (if ((t121 ++ t122) ++ t123).size + t124.size ≤ 9223372036854775807 then (some (1, ((t121 ++ t122) ++ t123) ++ t124)) else (none))) else (none))) else (none)))) = some (r1, r2) := h
 clear h
 replace H := Option.bind_eq_some_iff.mp H
 obtain ⟨t121, A30, H⟩ := H
 replace H : ((nums_Text.f a0_1).bind fun t122 => (if t121.size + t122.size ≤ 9223372036854775807 then ((nums_Chain.f (IntKind.u64.wrap (a0_2))).bind fun t123 => (if (t121 ++ t122).size + t123.size ≤ 9223372036854775807 then ((nums_Chain.f (IntKind.u64.wrap (a1))).bind fun t124 => (if ((t121 ++ t122) ++ t123).size + t124.size ≤ 9223372036854775807 then (some (1, ((t121 ++ t122) ++ t123) ++ t124)) else (none))) else (none))) else (none))) = some (r1, r2) := H
 have A3 := mkA A30
 clear A30
 replace H := Option.bind_eq_some_iff.mp H
 obtain ⟨t122, A40, H⟩ := H
 replace H : (if t121.size + t122.size ≤ 9223372036854775807 then ((nums_Chain.f (IntKind.u64.wrap (a0_2))).bind fun t123 => (if (t121 ++ t122).size + t123.size ≤ 9223372036854775807 then ((nums_Chain.f (IntKind.u64.wrap (a1))).bind fun t124 => (if ((t121 ++ t122) ++ t123).size + t124.size ≤ 9223372036854775807 then (some (1, ((t121 ++ t122) ++ t123) ++ t124)) else (none))) else (none))) else (none)) = some (r1, r2) := H
 have A4 := mkA A40
 clear A40
 by_cases c5 : t121.size + t122.size ≤ 9223372036854775807
 ·rw [if_pos c5] at H
  have c5b0 := eq_true c5
  have c5b1 : decide (t121.size + t122.size ≤ 9223372036854775807) = true := decide_eq_true c5
  try have c5b2 : (9223372036854775807 < t121.size + t122.size) = False := eq_false (Nat.not_lt.2 c5)
  try have c5b2n := c5b2
  try simp only [ByteArray.size_append] at c5b2n
  replace H := Option.bind_eq_some_iff.mp H
  obtain ⟨t123, A60, H⟩ := H
  replace H : (if (t121 ++ t122).size + t123.size ≤ 9223372036854775807 then ((nums_Chain.f (IntKind.u64.wrap (a1))).bind fun t124 => (if ((t121 ++ t122) ++ t123).size + t124.size ≤ 9223372036854775807 then (some (1, ((t121 ++ t122) ++ t123) ++ t124)) else (none))) else (none)) = some (r1, r2) := H
  have A6 := mkA A60
  clear A60
  by_cases c7 : (t121 ++ t122).size + t123.size ≤ 9223372036854775807
  ·rw [if_pos c7] at H
   have c7b0 := eq_true c7
   have c7b1 : decide ((t121 ++ t122).size + t123.size ≤ 9223372036854775807) = true := decide_eq_true c7
   try have c7b2 : (9223372036854775807 < (t121 ++ t122).size + t123.size) = False := eq_false (Nat.not_lt.2 c7)
   try have c7b2n := c7b2
   try simp only [ByteArray.size_append] at c7b2n
   replace H := Option.bind_eq_some_iff.mp H
   obtain ⟨t124, A80, H⟩ := H
   replace H : (if ((t121 ++ t122) ++ t123).size + t124.size ≤ 9223372036854775807 then (some (1, ((t121 ++ t122) ++ t123) ++ t124)) else (none)) = some (r1, r2) := H
   have A8 := mkA A80
   clear A80
   by_cases c9 : ((t121 ++ t122) ++ t123).size + t124.size ≤ 9223372036854775807
   ·rw [if_pos c9] at H
    have c9b0 := eq_true c9
    have c9b1 : decide (((t121 ++ t122) ++ t123).size + t124.size ≤ 9223372036854775807) = true := decide_eq_true c9
    try have c9b2 : (9223372036854775807 < ((t121 ++ t122) ++ t123).size + t124.size) = False := eq_false (Nat.not_lt.2 c9)
    try have c9b2n := c9b2
    try simp only [ByteArray.size_append] at c9b2n
    simp only [Option.some.injEq, Prod.mk.injEq] at H
    obtain ⟨rfl, rfl⟩ := H
    go_enter Try.func99, Try.ntmps99
    try go_wp2_with (first | ((with_reducible refine gate_dst (N := 2) rfl ?_); refine box_event ?hg (N := 2) ?hd (cs := #[.string a0_0, .string a0_1, .int .i64 a0_2]) (t := 74) ?hr ?_; (case hd => rfl); (case hg => rfl); (case hr => first | (go_simp; done) | (go_simp; rfl)); intro gb119 hg w10 hbox hb; have n0_ := mkA (zbS (by repeat (first | (with_reducible first | exact HB.out | apply lA | apply lN | apply lD) | exact HB.out)) hb); have n1_ := mkA (hbox); have n2_ := mkA ((by rw [hg]; exact (below_size (by repeat (first | (with_reducible first | exact HB.out | apply lA | apply lN | apply lD) | exact HB.out))) : w.heap.size ≤ gb119)); have n3_ := mkA ((by rw [hg]; exact (below_size (by repeat (first | (with_reducible first | exact HB.out | apply lA | apply lN | apply lD) | exact HB.out))) : w.heap.size ≤ gb119)); clear HB; have HB := n0_; have BK119 := n1_; have GW119 := n2_; have GE119 := n3_; clear n0_ n1_ n2_ n3_; clear hb hbox hg) | ((with_reducible refine gate_dst (N := 4) rfl ?_); refine box_event ?hg (N := 4) ?hd (cs := #[.int .i64 0, .string (⟨#[]⟩ : ByteArray)]) (t := 79) ?hr ?_; (case hd => rfl); (case hg => rfl); (case hr => first | (go_simp; done) | (go_simp; rfl)); intro gb120 hg w11 hbox hb; have n0_ := mkA (bB (g := gb119) (o := .cells #[.string a0_0, .string a0_1, .int .i64 a0_2] 74 (0, 0)) (by (with_reducible repeat first | apply bN | apply bD | apply bA); exact BK119.out) hb); have n1_ := mkA (zbS (by repeat (first | (with_reducible first | exact HB.out | apply lA | apply lN | apply lD | refine lS ?_ GE119.out) | exact HB.out)) hb); have n2_ := mkA (hbox); have n3_ := mkA ((by rw [hg]; exact (below_size (by repeat (first | (with_reducible first | exact HB.out | apply lA | apply lN | apply lD | refine lS ?_ GE119.out) | exact HB.out))) : w.heap.size ≤ gb120)); have n4_ := mkA ((by rw [hg]; exact (below_size (by repeat (first | (with_reducible first | exact HB.out | apply lA | apply lN | apply lD | refine lS ?_ GE119.out) | exact HB.out))) : w.heap.size ≤ gb120)); have n5_ := mkA ((by rw [hg]; exact Nat.ne_of_lt (blk_lt (g := gb119) (o := .cells #[.string a0_0, .string a0_1, .int .i64 a0_2] 74 (0, 0)) (by (with_reducible repeat first | apply bN | apply bD | apply bA); exact BK119.out)) : gb119 ≠ gb120)); have n6_ := mkA ((by rw [hg]; exact Nat.ne_of_gt (blk_lt (g := gb119) (o := .cells #[.string a0_0, .string a0_1, .int .i64 a0_2] 74 (0, 0)) (by (with_reducible repeat first | apply bN | apply bD | apply bA); exact BK119.out)) : gb120 ≠ gb119)); clear BK119; clear HB; have BK119 := n0_; have HB := n1_; have BK120 := n2_; have GW120 := n3_; have GE120 := n4_; have NB119_120 := n5_; have NB120_119 := n6_; clear n0_ n1_ n2_ n3_ n4_ n5_ n6_; clear hb hbox hg))
    have n0_ := mkA (bD BK119.out)
    have n1_ := mkA (bD BK120.out)
    have n2_ := mkA (lD HB.out)
    clear BK119
    clear BK120
    clear HB
    have BK119 := n0_
    have BK120 := n1_
    have HB := n2_
    clear n0_ n1_ n2_
    refine start_ (n := 20) (S := fun w' => w'.cell? ⟨gb119, 0, none⟩ = some (.string a0_0) ∧ w'.cell? ⟨gb119, 1, none⟩ = some (.string a0_1) ∧ w'.cell? ⟨gb119, 2, none⟩ = some (.int .i64 a0_2)) (ds := []) #[false, false, false, false, false, false, false, false, false, false, false, false, false, false, false, false, false, false, false, false] (by kernel_rfl) rfl rfl ⟨(bC BK119.out 0).trans rfl, (bC BK119.out 1).trans rfl, (bC BK119.out 2).trans rfl⟩ (fun hHeld => ?_); refine with_tabW offsets_entry.tab1 offsets_entry.bits1 (fun HT_ HW_ => ?_)
    generalize w11.drew = w12 at BK119 BK120 HB hHeld ⊢
    refine pure_ (i := 0) (N := some 5) (v := ?_) (a' := ?_) #[true, false, false, false, false, false, false, false, false, false, false, false, false, false, false, false, false, false, false, false] rfl rfl (any_of HT_.out (by kernel_rfl)) (fun _ _ _ h => h) (Or.inl ⟨by rfl, ?_⟩) ?_ ?_
    rotate_left
    ·intro w'
     go_simp
     with_reducible rfl
    rotate_left
    ·simp only [Act.put, zsI, zs0, zs1, i64_w, i32_w]
     rfl
    refine pure_ (i := 3) (N := some 8) (v := ?_) (a' := ?_) #[true, false, false, true, false, false, false, false, false, false, false, false, false, false, false, false, false, false, false, false] rfl rfl (any_of HT_.out (by kernel_rfl)) (fun _ _ _ h => h) (Or.inl ⟨by rfl, ?_⟩) ?_ ?_
    rotate_left
    ·intro w'
     go_simp
     with_reducible rfl
    rotate_left
    ·simp only [Act.put, zsI, zs0, zs1, i64_w, i32_w]
     rfl
    refine pure_ (i := 4) (N := some 9) (v := ?_) (a' := ?_) #[true, false, false, true, true, false, false, false, false, false, false, false, false, false, false, false, false, false, false, false] rfl rfl (any_of HT_.out (by kernel_rfl)) (fun _ _ _ h => h) (Or.inl ⟨by rfl, ?_⟩) ?_ ?_
    rotate_left
    ·intro w'
     go_simp
     with_reducible rfl
    rotate_left
    ·simp only [Act.put, zsI, zs0, zs1, i64_w, i32_w]
     rfl
    refine pure_ (i := 8) (N := some 13) (v := ?_) (a' := ?_) #[true, false, false, true, true, false, false, false, true, false, false, false, false, false, false, false, false, false, false, false] rfl rfl (any_of HT_.out (by kernel_rfl)) (fun _ _ _ h => h) (Or.inl ⟨by rfl, ?_⟩) ?_ ?_
    rotate_left
    ·intro w'
     go_simp
     with_reducible rfl
    rotate_left
    ·simp only [Act.put, zsI, zs0, zs1, i64_w, i32_w]
     rfl
    refine pure_ (i := 9) (N := some 14) (v := ?_) (a' := ?_) #[true, false, false, true, true, false, false, false, true, true, false, false, false, false, false, false, false, false, false, false] rfl rfl (any_of HT_.out (by kernel_rfl)) (fun _ _ _ h => h) (Or.inl ⟨by rfl, ?_⟩) ?_ ?_
    rotate_left
    ·intro w'
     go_simp
     with_reducible rfl
    rotate_left
    ·simp only [Act.put, zsI, zs0, zs1, i64_w, i32_w]
     rfl
    refine pure_ (i := 14) (N := some 19) (v := ?_) (a' := ?_) #[true, false, false, true, true, false, false, false, true, true, false, false, false, false, true, false, false, false, false, false] rfl rfl (any_of HT_.out (by kernel_rfl)) (fun _ _ _ h => h) (Or.inl ⟨by rfl, ?_⟩) ?_ ?_
    rotate_left
    ·intro w'
     go_simp
     with_reducible rfl
    rotate_left
    ·simp only [Act.put, zsI, zs0, zs1, i64_w, i32_w]
     rfl
    refine pure_ (i := 15) (N := some 20) (v := ?_) (a' := ?_) #[true, false, false, true, true, false, false, false, true, true, false, false, false, false, true, true, false, false, false, false] rfl rfl (any_of HT_.out (by kernel_rfl)) (fun _ _ _ h => h) (Or.inl ⟨by rfl, ?_⟩) ?_ ?_
    rotate_left
    ·intro w'
     go_simp
     with_reducible rfl
    rotate_left
    ·simp only [Act.put, zsI, zs0, zs1, i64_w, i32_w]
     rfl
    refine take_ (i := 1) (N := some 6) (v := ?_) (a' := ?_) #[true, true, false, true, true, false, false, false, true, true, false, false, false, false, true, true, false, false, false, false] rfl rfl (take_ofW HT_.out HW_.out (by kernel_rfl)) (fun _ _ _ h => h) (Or.inl ⟨by rfl, ?_⟩) hHeld ?_ ?_
    rotate_left
    ·rintro w' ⟨s0, s1, s2⟩
     go_simp
     with_reducible rfl
    rotate_left
    ·simp only [Act.put, zsI, zs0, zs1, i64_w, i32_w]
     rfl
    refine take_ (i := 5) (N := some 10) (v := ?_) (a' := ?_) #[true, true, false, true, true, true, false, false, true, true, false, false, false, false, true, true, false, false, false, false] rfl rfl (take_ofW HT_.out HW_.out (by kernel_rfl)) (fun _ _ _ h => h) (Or.inl ⟨by rfl, ?_⟩) hHeld ?_ ?_
    rotate_left
    ·rintro w' ⟨s0, s1, s2⟩
     go_simp
     with_reducible rfl
    rotate_left
    ·simp only [Act.put, zsI, zs0, zs1, i64_w, i32_w]
     rfl
    refine take_ (i := 10) (N := some 15) (v := ?_) (a' := ?_) #[true, true, false, true, true, true, false, false, true, true, true, false, false, false, true, true, false, false, false, false] rfl rfl (take_ofW HT_.out HW_.out (by kernel_rfl)) (fun _ _ _ h => h) (Or.inl ⟨by rfl, ?_⟩) hHeld ?_ ?_
    rotate_left
    ·rintro w' ⟨s0, s1, s2⟩
     go_simp
     with_reducible rfl
    rotate_left
    ·simp only [Act.put, zsI, zs0, zs1, i64_w, i32_w]
     rfl
    refine pure_ (i := 11) (N := some 16) (v := ?_) (a' := ?_) #[true, true, false, true, true, true, false, false, true, true, true, true, false, false, true, true, false, false, false, false] rfl rfl (any_of HT_.out (by kernel_rfl)) (fun _ _ _ h => h) (Or.inl ⟨by rfl, ?_⟩) ?_ ?_
    rotate_left
    ·intro w'
     go_simp
     with_reducible rfl
    rotate_left
    ·simp only [Act.put, zsI, zs0, zs1, i64_w, i32_w]
     rfl
    refine one_ (i := 2) (N := some 7) #[true, true, true, true, true, true, false, false, true, true, true, true, false, false, true, true, false, false, false, false] rfl rfl (one_of HT_.out (by kernel_rfl)) (by decide) (fun K hK => ?_)
    refine goes_ Try.func109 (by kernel_rfl) rfl #[.string a0_0] (by rfl) rfl rfl (by (try simp only [List.map_toArray, List.map_cons, List.map_nil]); first | done | rfl | (simp only [List.length_drop, List.length_take]; rfl)) ?_
    with_reducible refine (nums_Text.calls a0_0 t121 _ A3.out).mono ?_
    rintro e w13 ⟨rfl, hb⟩
    refine ⟨_, rfl, ?_⟩
    have n0_ := mkA (bB (g := gb119) (o := .cells #[.string a0_0, .string a0_1, .int .i64 a0_2] 74 (0, 0)) (by (with_reducible repeat first | apply bN | apply bD | apply bA); exact BK119.out) hb)
    have n1_ := mkA (bB (g := gb120) (o := .cells #[.int .i64 0, .string (⟨#[]⟩ : ByteArray)] 79 (0, 0)) (by (with_reducible repeat first | apply bN | apply bD | apply bA); exact BK120.out) hb)
    have n2_ := mkA (zbS (by repeat (first | (with_reducible first | exact HB.out | apply lA | apply lN | apply lD | refine lS ?_ GE119.out | refine lS ?_ GE120.out) | exact HB.out)) hb)
    clear BK119
    clear BK120
    clear HB
    have BK119 := n0_
    have BK120 := n1_
    have HB := n2_
    clear n0_ n1_ n2_
    (try clear hb)
    (try clear hb2)
    (try clear hk)
    (try clear hi)
    refine hK.out _ _ ⟨(bC BK119.out 0).trans rfl, (bC BK119.out 1).trans rfl, (bC BK119.out 2).trans rfl⟩ (fun hHeld => ?_)
    clear hK K
    refine norm_ (a' := ?_) ?_ ?_
    rotate_left
    ·show Act.put _ (some 7) _ = _
     simp only [Act.put, zsI, zs0, zs1, i64_w, i32_w]
     rfl
    refine one_ (i := 6) (N := some 11) #[true, true, true, true, true, true, true, false, true, true, true, true, false, false, true, true, false, false, false, false] rfl rfl (one_of HT_.out (by kernel_rfl)) (by decide) (fun K hK => ?_)
    refine goes_ Try.func109 (by kernel_rfl) rfl #[.string a0_1] (by rfl) rfl rfl (by (try simp only [List.map_toArray, List.map_cons, List.map_nil]); first | done | rfl | (simp only [List.length_drop, List.length_take]; rfl)) ?_
    with_reducible refine (nums_Text.calls a0_1 t122 _ A4.out).mono ?_
    rintro e w14 ⟨rfl, hb⟩
    refine ⟨_, rfl, ?_⟩
    have n0_ := mkA (bB (g := gb119) (o := .cells #[.string a0_0, .string a0_1, .int .i64 a0_2] 74 (0, 0)) (by (with_reducible repeat first | apply bN | apply bD | apply bA); exact BK119.out) hb)
    have n1_ := mkA (bB (g := gb120) (o := .cells #[.int .i64 0, .string (⟨#[]⟩ : ByteArray)] 79 (0, 0)) (by (with_reducible repeat first | apply bN | apply bD | apply bA); exact BK120.out) hb)
    have n2_ := mkA (zbS (by repeat (first | (with_reducible first | exact HB.out | apply lA | apply lN | apply lD | refine lS ?_ GE119.out | refine lS ?_ GE120.out) | exact HB.out)) hb)
    clear BK119
    clear BK120
    clear HB
    have BK119 := n0_
    have BK120 := n1_
    have HB := n2_
    clear n0_ n1_ n2_
    (try clear hb)
    (try clear hb2)
    (try clear hk)
    (try clear hi)
    refine hK.out _ _ ⟨(bC BK119.out 0).trans rfl, (bC BK119.out 1).trans rfl, (bC BK119.out 2).trans rfl⟩ (fun hHeld => ?_)
    clear hK K
    refine norm_ (a' := ?_) ?_ ?_
    rotate_left
    ·show Act.put _ (some 11) _ = _
     simp only [Act.put, zsI, zs0, zs1, i64_w, i32_w]
     rfl
    refine pure_ (i := 7) (N := some 12) (v := ?_) (a' := ?_) #[true, true, true, true, true, true, true, true, true, true, true, true, false, false, true, true, false, false, false, false] rfl rfl (any_of HT_.out (by kernel_rfl)) (fun _ _ _ h => h) (Or.inl ⟨by rfl, ?_⟩) ?_ ?_
    rotate_left
    ·intro w'
     go_simp
     with_reducible rfl
    rotate_left
    ·simp only [Act.put, zsI, zs0, zs1, i64_w, i32_w]
     rfl
    refine one_ (i := 12) (N := some 17) #[true, true, true, true, true, true, true, true, true, true, true, true, true, false, true, true, false, false, false, false] rfl rfl (one_of HT_.out (by kernel_rfl)) (by decide) (fun K hK => ?_)
    refine goes_ Try.func137 (by kernel_rfl) rfl #[.int .u64 (IntKind.u64.wrap (a0_2))] (by rfl) rfl rfl (by (try simp only [List.map_toArray, List.map_cons, List.map_nil]); first | done | rfl | (simp only [List.length_drop, List.length_take]; rfl)) ?_
    with_reducible refine (nums_Chain.calls (IntKind.u64.wrap (a0_2)) t123 _ A6.out).mono ?_
    rintro e w15 ⟨rfl, hb⟩
    refine ⟨_, rfl, ?_⟩
    have n0_ := mkA (bB (g := gb119) (o := .cells #[.string a0_0, .string a0_1, .int .i64 a0_2] 74 (0, 0)) (by (with_reducible repeat first | apply bN | apply bD | apply bA); exact BK119.out) hb)
    have n1_ := mkA (bB (g := gb120) (o := .cells #[.int .i64 0, .string (⟨#[]⟩ : ByteArray)] 79 (0, 0)) (by (with_reducible repeat first | apply bN | apply bD | apply bA); exact BK120.out) hb)
    have n2_ := mkA (zbS (by repeat (first | (with_reducible first | exact HB.out | apply lA | apply lN | apply lD | refine lS ?_ GE119.out | refine lS ?_ GE120.out) | exact HB.out)) hb)
    clear BK119
    clear BK120
    clear HB
    have BK119 := n0_
    have BK120 := n1_
    have HB := n2_
    clear n0_ n1_ n2_
    (try clear hb)
    (try clear hb2)
    (try clear hk)
    (try clear hi)
    refine hK.out _ _ ⟨(bC BK119.out 0).trans rfl, (bC BK119.out 1).trans rfl, (bC BK119.out 2).trans rfl⟩ (fun hHeld => ?_)
    clear hK K
    refine norm_ (a' := ?_) ?_ ?_
    rotate_left
    ·show Act.put _ (some 17) _ = _
     simp only [Act.put, zsI, zs0, zs1, i64_w, i32_w]
     rfl
    refine pure_ (i := 13) (N := some 18) (v := ?_) (a' := ?_) #[true, true, true, true, true, true, true, true, true, true, true, true, true, true, true, true, false, false, false, false] rfl rfl (any_of HT_.out (by kernel_rfl)) (fun _ _ _ h => h) (Or.inl ⟨by rfl, ?_⟩) ?_ ?_
    rotate_left
    ·intro w'
     go_simp
     with_reducible rfl
    rotate_left
    ·simp only [Act.put, zsI, zs0, zs1, i64_w, i32_w]
     rfl
    refine one_ (i := 16) (N := some 21) #[true, true, true, true, true, true, true, true, true, true, true, true, true, true, true, true, true, false, false, false] rfl rfl (one_of HT_.out (by kernel_rfl)) (by decide) (fun K hK => ?_)
    refine goes_ Try.func137 (by kernel_rfl) rfl #[.int .u64 (IntKind.u64.wrap (a1))] (by rfl) rfl rfl (by (try simp only [List.map_toArray, List.map_cons, List.map_nil]); first | done | rfl | (simp only [List.length_drop, List.length_take]; rfl)) ?_
    with_reducible refine (nums_Chain.calls (IntKind.u64.wrap (a1)) t124 _ A8.out).mono ?_
    rintro e w16 ⟨rfl, hb⟩
    refine ⟨_, rfl, ?_⟩
    have n0_ := mkA (bB (g := gb119) (o := .cells #[.string a0_0, .string a0_1, .int .i64 a0_2] 74 (0, 0)) (by (with_reducible repeat first | apply bN | apply bD | apply bA); exact BK119.out) hb)
    have n1_ := mkA (bB (g := gb120) (o := .cells #[.int .i64 0, .string (⟨#[]⟩ : ByteArray)] 79 (0, 0)) (by (with_reducible repeat first | apply bN | apply bD | apply bA); exact BK120.out) hb)
    have n2_ := mkA (zbS (by repeat (first | (with_reducible first | exact HB.out | apply lA | apply lN | apply lD | refine lS ?_ GE119.out | refine lS ?_ GE120.out) | exact HB.out)) hb)
    clear BK119
    clear BK120
    clear HB
    have BK119 := n0_
    have BK120 := n1_
    have HB := n2_
    clear n0_ n1_ n2_
    (try clear hb)
    (try clear hb2)
    (try clear hk)
    (try clear hi)
    refine hK.out _ _ ⟨(bC BK119.out 0).trans rfl, (bC BK119.out 1).trans rfl, (bC BK119.out 2).trans rfl⟩ (fun hHeld => ?_)
    clear hK K
    refine norm_ (a' := ?_) ?_ ?_
    rotate_left
    ·show Act.put _ (some 21) _ = _
     simp only [Act.put, zsI, zs0, zs1, i64_w, i32_w]
     rfl
    refine pure_ (i := 17) (N := some 22) (v := ?_) (a' := ?_) #[true, true, true, true, true, true, true, true, true, true, true, true, true, true, true, true, true, true, false, false] rfl rfl (any_of HT_.out (by kernel_rfl)) (fun _ _ _ h => h) (Or.inl ⟨by rfl, ?_⟩) ?_ ?_
    rotate_left
    ·intro w'
     go_simp
     with_reducible rfl
    rotate_left
    ·simp only [Act.put, zsI, zs0, zs1, i64_w, i32_w]
     rfl
    refine pure_ (i := 18) (N := some 23) (v := ?_) (a' := ?_) #[true, true, true, true, true, true, true, true, true, true, true, true, true, true, true, true, true, true, true, false] rfl rfl (any_of HT_.out (by kernel_rfl)) (fun _ _ _ h => h) (Or.inl ⟨by rfl, ?_⟩) ?_ ?_
    rotate_left
    ·intro w'
     go_simp
     with_reducible rfl
    rotate_left
    ·simp only [Act.put, zsI, zs0, zs1, i64_w, i32_w]
     rfl
    refine one_ (i := 19) (N := none) #[true, true, true, true, true, true, true, true, true, true, true, true, true, true, true, true, true, true, true, true] rfl rfl (one_of HT_.out (by kernel_rfl)) (by decide) (fun K hK => ?_)
    have hs17 : w16.cell? ⟨gb120, 0, none⟩ = some (.int .i64 0) := (bC BK120.out 0).trans rfl
    have hfs17 := bF BK120.out 0
    have hns17_0 := NB119_120.out
    have hms17_0 := NB120_119.out
    have hs18 : w16.cell? ⟨gb120, 1, none⟩ = some (.string (⟨#[]⟩ : ByteArray)) := (bC BK120.out 1).trans rfl
    have hfs18 := bF BK120.out 1
    have hns18_0 := NB119_120.out
    have hms18_0 := NB120_119.out
    refine skip_ (w1 := ?_) (by rfl) rfl ?_ ?_
    rotate_left
    ·go_simp
     rfl
    refine hK.out _ _ ⟨((cell_far (p := ⟨gb120, _, none⟩) NB119_120.out _).trans (((cell_far (p := ⟨gb120, _, none⟩) NB119_120.out _).trans (hHeld.1)))), ((cell_far (p := ⟨gb120, _, none⟩) NB119_120.out _).trans (((cell_far (p := ⟨gb120, _, none⟩) NB119_120.out _).trans (hHeld.2.1)))), ((cell_far (p := ⟨gb120, _, none⟩) NB119_120.out _).trans (((cell_far (p := ⟨gb120, _, none⟩) NB119_120.out _).trans (hHeld.2.2))))⟩ (fun hHeld => ?_)
    clear hK K
    refine done_ (done_of HT_.out (by kernel_rfl)) ?_
    try go_wp2
    refine bodyPost_ret (results_cell_row rfl _ _ gb120 79 #[.int .i64 1, .string (((t121 ++ t122) ++ t123) ++ t124)] (0, 0) _ rfl (by (with_reducible repeat first | apply bN | apply bD | apply bA); refine bP (cs := #[.int .i64 1, .string (⟨#[]⟩ : ByteArray)]) ?_ 1 _ rfl; (with_reducible repeat first | apply bN | apply bD | apply bA); refine bP (cs := #[.int .i64 0, .string (⟨#[]⟩ : ByteArray)]) ?_ 0 _ rfl; (with_reducible repeat first | apply bN | apply bD | apply bA); exact BK120.out) Try.underlying79 rfl (by kernel_rfl)) rfl ?_
    exact ⟨by first | rfl | (simp [errW_none, errW_some] <;> rfl) | (simp [*, errW_none, errW_some] <;> rfl), by repeat (first | (with_reducible first | exact HB.out | apply lA | apply lN | apply lD | refine lS ?_ GE119.out | refine lS ?_ GE120.out) | exact HB.out)⟩
   ·rw [if_neg c9] at H
    exact absurd H (by simp)
  ·rw [if_neg c7] at H
   exact absurd H (by simp)
 ·rw [if_neg c5] at H
  exact absurd H (by simp)
def weighlockref22_Name.l0 : Nat → ByteArray → Int → Int → Option (Bool)
 | 0, _, _, _ => none
 | k + 1, x0, x6, x7 => if x7 < x6 then (if 0 ≤ x7 then (if x7 < (x0.size : Int) then (if (bt x0 x7) ≥ 97 then (if (bt x0 x7) ≤ 122 then (weighlockref22_Name.l0 k x0 x6 (wrap64 (x7 + 1))) else (if (bt x0 x7) ≥ 48 then (if (bt x0 x7) ≤ 57 then (weighlockref22_Name.l0 k x0 x6 (wrap64 (x7 + 1))) else (if ((bt x0 x7) = 45) then (weighlockref22_Name.l0 k x0 x6 (wrap64 (x7 + 1))) else (some false))) else (if ((bt x0 x7) = 45) then (weighlockref22_Name.l0 k x0 x6 (wrap64 (x7 + 1))) else (some false)))) else (if (bt x0 x7) ≥ 48 then (if (bt x0 x7) ≤ 57 then (weighlockref22_Name.l0 k x0 x6 (wrap64 (x7 + 1))) else (if ((bt x0 x7) = 45) then (weighlockref22_Name.l0 k x0 x6 (wrap64 (x7 + 1))) else (some false))) else (if ((bt x0 x7) = 45) then (weighlockref22_Name.l0 k x0 x6 (wrap64 (x7 + 1))) else (some false)))) else (none)) else (none)) else (if (x0.size : Int) ≥ 1 then (some (decide ((x0.size : Int) ≤ 12))) else (some false))
def weighlockref22_Name.f (k : Nat) (a0 : ByteArray) : Option (Bool) := weighlockref22_Name.l0 k a0 (a0.size : Int) 0
theorem weighlockref22_Name.mono_l : ∀ k, (∀ y0 y1 y2, LeO (weighlockref22_Name.l0 k y0 y1 y2) (weighlockref22_Name.l0 (k + 1) y0 y1 y2))
 | 0 => fun _ _ _ r h => by simp [weighlockref22_Name.l0] at h
 | k + 1 => by
  have ih0 := weighlockref22_Name.mono_l k
  ·intro y0 y1 y2
   unfold weighlockref22_Name.l0
   repeat' first
   | (with_reducible exact ih0 _ _ _)
   | (with_reducible exact LeO.refl _)
   | (with_reducible exact LeO.none _)
   | (with_reducible refine LeO.ite ?_ ?_)
   | (with_reducible refine LeO.bind ?_ (fun _ => ?_))
   | exact ih0 _ _ _
   | exact LeO.none _
   | refine LeO.ite ?_ ?_
   | refine LeO.bind ?_ (fun _ => ?_)
theorem weighlockref22_Name.mono : ∀ a0 k, LeO (weighlockref22_Name.f k a0) (weighlockref22_Name.f (k + 1) a0) := by
 intro a0 k
 have ih0 := weighlockref22_Name.mono_l k
 unfold weighlockref22_Name.f
 repeat' first
   | (with_reducible exact ih0 _ _ _)
   | (with_reducible exact LeO.refl _)
   | (with_reducible exact LeO.none _)
   | (with_reducible refine LeO.ite ?_ ?_)
   | (with_reducible refine LeO.bind ?_ (fun _ => ?_))
   | exact ih0 _ _ _
   | exact LeO.none _
   | refine LeO.ite ?_ ?_
   | refine LeO.bind ?_ (fun _ => ?_)
set_option maxHeartbeats 8000000 in
set_option maxRecDepth 100000 in
theorem weighlockref22_Name.calls (k : Nat) (a0 : ByteArray) (r : Bool) (w : World) (h : weighlockref22_Name.f k a0 = some r) :
  Calls Try.prog 79 #[.string a0] w fun e w' => e = .returned (.bool r) ∧ Drawn0 w w' := by
 have H : (weighlockref22_Name.l0 k a0 (a0.size : Int) 0) = some r := h
 clear h
 have H' := mkA H
 clear H
 go_enter Try.func79, Try.ntmps79
 go_wp2
 go_loopg [7] k (fun kq v7 w' => ∃ (x7_1 : Int), v7 = .int .i64 x7_1 ∧ Aside0 (weighlockref22_Name.l0 kq a0 (a0.size : Int) x7_1 = some r) ∧ Aside0 (kq ≤ k) ∧ Drawn0 w w')
 case atStart => exact ⟨(0), (by first | rfl | (simp; done) | (simp [*]; done)), H', ⟨Nat.le_refl _⟩, by repeat (first | exact Drawn0.refl _ | apply Drawn0.step)⟩
 case round =>
  clear H'
  obtain ⟨x7_1, rfl, HA, HK1, ⟨m1, rfl⟩⟩ := hrel
  cases gk with
  | zero => exact absurd HA.out (by simp [weighlockref22_Name.l0])
  | succ k1 =>
   have H := HA.out
   clear HA
   simp only [weighlockref22_Name.l0] at H
   by_cases c2 : x7_1 < (a0.size : Int)
   ·rw [if_pos c2] at H
    have c2b0 : decide (x7_1 < (a0.size : Int)) = true := decide_eq_true c2
    clear c2
    by_cases c3 : 0 ≤ x7_1
    ·rw [if_pos c3] at H
     have c3b0 : decide (0 ≤ x7_1) = true := decide_eq_true c3
     clear c3
     by_cases c4 : x7_1 < (a0.size : Int)
     ·rw [if_pos c4] at H
      have c4b0 : decide (x7_1 < (a0.size : Int)) = true := decide_eq_true c4
      clear c4
      by_cases c6 : (bt a0 x7_1) ≥ 97
      ·rw [if_pos c6] at H
       have c6b0 : decide (97 ≤ (bt a0 x7_1)) = true := decide_eq_true c6
       clear c6
       by_cases c7 : (bt a0 x7_1) ≤ 122
       ·rw [if_pos c7] at H
        have c7b0 : decide ((bt a0 x7_1) ≤ 122) = true := decide_eq_true c7
        clear c7
        have H' := mkA H
        clear H
        have p5 : 0 ≤ (x7_1 : Int) := of_decide_eq_true (by first | (with_reducible assumption) | assumption)
        have q5 : x7_1 < (a0.size : Int) := of_decide_eq_true (by first | (with_reducible assumption) | assumption)
        have hx5 := bt_at a0 x7_1
        replace p5 := eq_true p5
        replace q5 := eq_true q5
        go_wp2
        go_roundg k1
        case measure => have := HK1.out; omega
        case rel => exact ⟨(wrap64 (x7_1 + 1)), (by first | rfl | (simp; done) | (simp [*]; done)), H', ⟨by have := HK1.out; omega⟩, by repeat (first | exact Drawn0.refl _ | apply Drawn0.step)⟩
       ·rw [if_neg c7] at H
        have c7b0 : decide ((bt a0 x7_1) ≤ 122) = false := decide_eq_false c7
        clear c7
        by_cases c8 : (bt a0 x7_1) ≥ 48
        ·rw [if_pos c8] at H
         have c8b0 : decide (48 ≤ (bt a0 x7_1)) = true := decide_eq_true c8
         clear c8
         by_cases c9 : (bt a0 x7_1) ≤ 57
         ·rw [if_pos c9] at H
          have c9b0 : decide ((bt a0 x7_1) ≤ 57) = true := decide_eq_true c9
          clear c9
          have H' := mkA H
          clear H
          have p5 : 0 ≤ (x7_1 : Int) := of_decide_eq_true (by first | (with_reducible assumption) | assumption)
          have q5 : x7_1 < (a0.size : Int) := of_decide_eq_true (by first | (with_reducible assumption) | assumption)
          have hx5 := bt_at a0 x7_1
          replace p5 := eq_true p5
          replace q5 := eq_true q5
          go_wp2
          go_roundg k1
          case measure => have := HK1.out; omega
          case rel => exact ⟨(wrap64 (x7_1 + 1)), (by first | rfl | (simp; done) | (simp [*]; done)), H', ⟨by have := HK1.out; omega⟩, by repeat (first | exact Drawn0.refl _ | apply Drawn0.step)⟩
         ·rw [if_neg c9] at H
          have c9b0 : decide ((bt a0 x7_1) ≤ 57) = false := decide_eq_false c9
          clear c9
          by_cases c10 : ((bt a0 x7_1) = 45)
          ·rw [if_pos c10] at H
           have c10b0 : ((bt a0 x7_1) == 45) = true := beq_iff_eq.mpr c10
           have c10b1 : ((bt a0 x7_1) != 45) = false := bne_eq_false_iff_eq.mpr c10
           clear c10
           have H' := mkA H
           clear H
           have p5 : 0 ≤ (x7_1 : Int) := of_decide_eq_true (by first | (with_reducible assumption) | assumption)
           have q5 : x7_1 < (a0.size : Int) := of_decide_eq_true (by first | (with_reducible assumption) | assumption)
           have hx5 := bt_at a0 x7_1
           replace p5 := eq_true p5
           replace q5 := eq_true q5
           go_wp2
           go_roundg k1
           case measure => have := HK1.out; omega
           case rel => exact ⟨(wrap64 (x7_1 + 1)), (by first | rfl | (simp; done) | (simp [*]; done)), H', ⟨by have := HK1.out; omega⟩, by repeat (first | exact Drawn0.refl _ | apply Drawn0.step)⟩
          ·rw [if_neg c10] at H
           have c10b0 : ((bt a0 x7_1) == 45) = false := beq_eq_false_iff_ne.mpr c10
           have c10b1 : ((bt a0 x7_1) != 45) = true := bne_iff_ne.mpr c10
           obtain rfl := Option.some.inj H
           have p5 : 0 ≤ (x7_1 : Int) := of_decide_eq_true (by first | (with_reducible assumption) | assumption)
           have q5 : x7_1 < (a0.size : Int) := of_decide_eq_true (by first | (with_reducible assumption) | assumption)
           have hx5 := bt_at a0 x7_1
           replace p5 := eq_true p5
           replace q5 := eq_true q5
           go_wp2
           go_ret
           exact ⟨by first | rfl | (simp; done) | (simp [*]; done), by repeat (first | exact Drawn0.refl _ | apply Drawn0.step)⟩
        ·rw [if_neg c8] at H
         have c8b0 : decide (48 ≤ (bt a0 x7_1)) = false := decide_eq_false c8
         clear c8
         by_cases c11 : ((bt a0 x7_1) = 45)
         ·rw [if_pos c11] at H
          have c11b0 : ((bt a0 x7_1) == 45) = true := beq_iff_eq.mpr c11
          have c11b1 : ((bt a0 x7_1) != 45) = false := bne_eq_false_iff_eq.mpr c11
          clear c11
          have H' := mkA H
          clear H
          have p5 : 0 ≤ (x7_1 : Int) := of_decide_eq_true (by first | (with_reducible assumption) | assumption)
          have q5 : x7_1 < (a0.size : Int) := of_decide_eq_true (by first | (with_reducible assumption) | assumption)
          have hx5 := bt_at a0 x7_1
          replace p5 := eq_true p5
          replace q5 := eq_true q5
          go_wp2
          go_roundg k1
          case measure => have := HK1.out; omega
          case rel => exact ⟨(wrap64 (x7_1 + 1)), (by first | rfl | (simp; done) | (simp [*]; done)), H', ⟨by have := HK1.out; omega⟩, by repeat (first | exact Drawn0.refl _ | apply Drawn0.step)⟩
         ·rw [if_neg c11] at H
          have c11b0 : ((bt a0 x7_1) == 45) = false := beq_eq_false_iff_ne.mpr c11
          have c11b1 : ((bt a0 x7_1) != 45) = true := bne_iff_ne.mpr c11
          obtain rfl := Option.some.inj H
          have p5 : 0 ≤ (x7_1 : Int) := of_decide_eq_true (by first | (with_reducible assumption) | assumption)
          have q5 : x7_1 < (a0.size : Int) := of_decide_eq_true (by first | (with_reducible assumption) | assumption)
          have hx5 := bt_at a0 x7_1
          replace p5 := eq_true p5
          replace q5 := eq_true q5
          go_wp2
          go_ret
          exact ⟨by first | rfl | (simp; done) | (simp [*]; done), by repeat (first | exact Drawn0.refl _ | apply Drawn0.step)⟩
      ·rw [if_neg c6] at H
       have c6b0 : decide (97 ≤ (bt a0 x7_1)) = false := decide_eq_false c6
       clear c6
       by_cases c12 : (bt a0 x7_1) ≥ 48
       ·rw [if_pos c12] at H
        have c12b0 : decide (48 ≤ (bt a0 x7_1)) = true := decide_eq_true c12
        clear c12
        by_cases c13 : (bt a0 x7_1) ≤ 57
        ·rw [if_pos c13] at H
         have c13b0 : decide ((bt a0 x7_1) ≤ 57) = true := decide_eq_true c13
         clear c13
         have H' := mkA H
         clear H
         have p5 : 0 ≤ (x7_1 : Int) := of_decide_eq_true (by first | (with_reducible assumption) | assumption)
         have q5 : x7_1 < (a0.size : Int) := of_decide_eq_true (by first | (with_reducible assumption) | assumption)
         have hx5 := bt_at a0 x7_1
         replace p5 := eq_true p5
         replace q5 := eq_true q5
         go_wp2
         go_roundg k1
         case measure => have := HK1.out; omega
         case rel => exact ⟨(wrap64 (x7_1 + 1)), (by first | rfl | (simp; done) | (simp [*]; done)), H', ⟨by have := HK1.out; omega⟩, by repeat (first | exact Drawn0.refl _ | apply Drawn0.step)⟩
        ·rw [if_neg c13] at H
         have c13b0 : decide ((bt a0 x7_1) ≤ 57) = false := decide_eq_false c13
         clear c13
         by_cases c14 : ((bt a0 x7_1) = 45)
         ·rw [if_pos c14] at H
          have c14b0 : ((bt a0 x7_1) == 45) = true := beq_iff_eq.mpr c14
          have c14b1 : ((bt a0 x7_1) != 45) = false := bne_eq_false_iff_eq.mpr c14
          clear c14
          have H' := mkA H
          clear H
          have p5 : 0 ≤ (x7_1 : Int) := of_decide_eq_true (by first | (with_reducible assumption) | assumption)
          have q5 : x7_1 < (a0.size : Int) := of_decide_eq_true (by first | (with_reducible assumption) | assumption)
          have hx5 := bt_at a0 x7_1
          replace p5 := eq_true p5
          replace q5 := eq_true q5
          go_wp2
          go_roundg k1
          case measure => have := HK1.out; omega
          case rel => exact ⟨(wrap64 (x7_1 + 1)), (by first | rfl | (simp; done) | (simp [*]; done)), H', ⟨by have := HK1.out; omega⟩, by repeat (first | exact Drawn0.refl _ | apply Drawn0.step)⟩
         ·rw [if_neg c14] at H
          have c14b0 : ((bt a0 x7_1) == 45) = false := beq_eq_false_iff_ne.mpr c14
          have c14b1 : ((bt a0 x7_1) != 45) = true := bne_iff_ne.mpr c14
          obtain rfl := Option.some.inj H
          have p5 : 0 ≤ (x7_1 : Int) := of_decide_eq_true (by first | (with_reducible assumption) | assumption)
          have q5 : x7_1 < (a0.size : Int) := of_decide_eq_true (by first | (with_reducible assumption) | assumption)
          have hx5 := bt_at a0 x7_1
          replace p5 := eq_true p5
          replace q5 := eq_true q5
          go_wp2
          go_ret
          exact ⟨by first | rfl | (simp; done) | (simp [*]; done), by repeat (first | exact Drawn0.refl _ | apply Drawn0.step)⟩
       ·rw [if_neg c12] at H
        have c12b0 : decide (48 ≤ (bt a0 x7_1)) = false := decide_eq_false c12
        clear c12
        by_cases c15 : ((bt a0 x7_1) = 45)
        ·rw [if_pos c15] at H
         have c15b0 : ((bt a0 x7_1) == 45) = true := beq_iff_eq.mpr c15
         have c15b1 : ((bt a0 x7_1) != 45) = false := bne_eq_false_iff_eq.mpr c15
         clear c15
         have H' := mkA H
         clear H
         have p5 : 0 ≤ (x7_1 : Int) := of_decide_eq_true (by first | (with_reducible assumption) | assumption)
         have q5 : x7_1 < (a0.size : Int) := of_decide_eq_true (by first | (with_reducible assumption) | assumption)
         have hx5 := bt_at a0 x7_1
         replace p5 := eq_true p5
         replace q5 := eq_true q5
         go_wp2
         go_roundg k1
         case measure => have := HK1.out; omega
         case rel => exact ⟨(wrap64 (x7_1 + 1)), (by first | rfl | (simp; done) | (simp [*]; done)), H', ⟨by have := HK1.out; omega⟩, by repeat (first | exact Drawn0.refl _ | apply Drawn0.step)⟩
        ·rw [if_neg c15] at H
         have c15b0 : ((bt a0 x7_1) == 45) = false := beq_eq_false_iff_ne.mpr c15
         have c15b1 : ((bt a0 x7_1) != 45) = true := bne_iff_ne.mpr c15
         obtain rfl := Option.some.inj H
         have p5 : 0 ≤ (x7_1 : Int) := of_decide_eq_true (by first | (with_reducible assumption) | assumption)
         have q5 : x7_1 < (a0.size : Int) := of_decide_eq_true (by first | (with_reducible assumption) | assumption)
         have hx5 := bt_at a0 x7_1
         replace p5 := eq_true p5
         replace q5 := eq_true q5
         go_wp2
         go_ret
         exact ⟨by first | rfl | (simp; done) | (simp [*]; done), by repeat (first | exact Drawn0.refl _ | apply Drawn0.step)⟩
     ·rw [if_neg c4] at H
      exact absurd H (by simp)
    ·rw [if_neg c3] at H
     exact absurd H (by simp)
   ·rw [if_neg c2] at H
    have c2b0 : decide (x7_1 < (a0.size : Int)) = false := decide_eq_false c2
    clear c2
    by_cases c16 : (a0.size : Int) ≥ 1
    ·rw [if_pos c16] at H
     have c16b0 : decide (1 ≤ (a0.size : Int)) = true := decide_eq_true c16
     have c16b1 : decide (1 ≤ a0.size) = true := decide_eq_true (by omega)
     clear c16
     obtain rfl := Option.some.inj H
     go_wp2
     go_ret
     exact ⟨by first | rfl | (simp; done) | (simp [*]; done), by repeat (first | exact Drawn0.refl _ | apply Drawn0.step)⟩
    ·rw [if_neg c16] at H
     have c16b0 : decide (1 ≤ (a0.size : Int)) = false := decide_eq_false c16
     have c16b1 : decide (1 ≤ a0.size) = false := decide_eq_false (by omega)
     clear c16
     obtain rfl := Option.some.inj H
     go_wp2
     go_ret
     exact ⟨by first | rfl | (simp; done) | (simp [*]; done), by repeat (first | exact Drawn0.refl _ | apply Drawn0.step)⟩
def weighlockref24_May.f (k : Nat) (a0_0 : ByteArray) (a0_1 : ByteArray) (a0_2 : Int) (a0_3 : Int) : Option (Bool) := (weighlockref22_Name.f k a0_0).bind fun t126 => (if t126 = true then ((weighlockref22_Name.f k a0_1).bind fun t127 => (if t127 = true then (if a0_2 ≥ 0 then (if a0_2 ≤ 3 then (if a0_3 ≥ 0 then (some (decide (a0_3 ≤ 1048577))) else (some false)) else (some false)) else (some false)) else (some false))) else (some false))
theorem weighlockref24_May.mono : ∀ a0 a1 a2 a3 k, LeO (weighlockref24_May.f k a0 a1 a2 a3) (weighlockref24_May.f (k + 1) a0 a1 a2 a3) := by
 intro a0 a1 a2 a3 k
 unfold weighlockref24_May.f
 repeat' first
   | (with_reducible exact weighlockref22_Name.mono _ _)
   | (with_reducible exact LeO.refl _)
   | (with_reducible exact LeO.none _)
   | (with_reducible refine LeO.ite ?_ ?_)
   | (with_reducible refine LeO.bind ?_ (fun _ => ?_))
   | exact weighlockref22_Name.mono _ _
   | exact LeO.none _
   | refine LeO.ite ?_ ?_
   | refine LeO.bind ?_ (fun _ => ?_)
set_option maxHeartbeats 8000000 in
set_option maxRecDepth 100000 in
theorem weighlockref24_May.calls (k : Nat) (a0_0 : ByteArray) (a0_1 : ByteArray) (a0_2 : Int) (a0_3 : Int) (r : Bool) (w : World) (h : weighlockref24_May.f k a0_0 a0_1 a0_2 a0_3 = some r) :
  Calls Try.prog 100 #[.agg #[.string a0_0, .string a0_1, .int .i64 a0_2, .int .i64 a0_3]] w fun e w' => e = .returned (.bool r) ∧ Below w.heap.size w w' := by
 have hu166 := Try.underlying166
 have HB := mkA (Below.refl w.heap.size w)
 have H : ((weighlockref22_Name.f k a0_0).bind fun t126 => (if t126 = true then ((weighlockref22_Name.f k a0_1).bind fun t127 => (if t127 = true then (if a0_2 ≥ 0 then (if a0_2 ≤ 3 then (if a0_3 ≥ 0 then (some (decide (a0_3 ≤ 1048577))) else (some false)) else (some false)) else (some false)) else (some false))) else (some false))) = some r := h
 clear h
 replace H := Option.bind_eq_some_iff.mp H
 obtain ⟨t126, A20, H⟩ := H
 replace H : (if t126 = true then ((weighlockref22_Name.f k a0_1).bind fun t127 => (if t127 = true then (if a0_2 ≥ 0 then (if a0_2 ≤ 3 then (if a0_3 ≥ 0 then (some (decide (a0_3 ≤ 1048577))) else (some false)) else (some false)) else (some false)) else (some false))) else (some false)) = some r := H
 have A2 := mkA A20
 clear A20
 by_cases c3 : t126 = true
 ·subst c3
  have H1 : ((weighlockref22_Name.f k a0_1).bind fun t127 => (if t127 = true then (if a0_2 ≥ 0 then (if a0_2 ≤ 3 then (if a0_3 ≥ 0 then (some (decide (a0_3 ≤ 1048577))) else (some false)) else (some false)) else (some false)) else (some false))) = some r := by rw [if_pos rfl] at H; exact H
  clear H
  have H := H1
  clear H1
  replace H := Option.bind_eq_some_iff.mp H
  obtain ⟨t127, A40, H⟩ := H
  replace H : (if t127 = true then (if a0_2 ≥ 0 then (if a0_2 ≤ 3 then (if a0_3 ≥ 0 then (some (decide (a0_3 ≤ 1048577))) else (some false)) else (some false)) else (some false)) else (some false)) = some r := H
  have A4 := mkA A40
  clear A40
  by_cases c5 : t127 = true
  ·subst c5
   have H1 : (if a0_2 ≥ 0 then (if a0_2 ≤ 3 then (if a0_3 ≥ 0 then (some (decide (a0_3 ≤ 1048577))) else (some false)) else (some false)) else (some false)) = some r := by rw [if_pos rfl] at H; exact H
   clear H
   have H := H1
   clear H1
   by_cases c6 : a0_2 ≥ 0
   ·rw [if_pos c6] at H
    have c6b0 : decide (0 ≤ a0_2) = true := decide_eq_true c6
    clear c6
    by_cases c7 : a0_2 ≤ 3
    ·rw [if_pos c7] at H
     have c7b0 : decide (a0_2 ≤ 3) = true := decide_eq_true c7
     clear c7
     by_cases c8 : a0_3 ≥ 0
     ·rw [if_pos c8] at H
      have c8b0 : decide (0 ≤ a0_3) = true := decide_eq_true c8
      clear c8
      obtain rfl := Option.some.inj H
      go_enter Try.func100, Try.ntmps100
      go_wp2_with (first | ((with_reducible refine gate_dst (N := 1) rfl ?_); refine box_event ?hg (N := 1) ?hd (cs := #[.string a0_0, .string a0_1, .int .i64 a0_2, .int .i64 a0_3]) (t := 166) ?hr ?_; (case hd => rfl); (case hg => rfl); (case hr => first | (go_simp; done) | (go_simp; rfl)); intro gb125 hg w9 hbox hb; have n0_ := mkA (zbS (by repeat (first | (with_reducible first | exact HB.out | apply lA | apply lN | apply lD) | exact HB.out)) hb); have n1_ := mkA (hbox); have n2_ := mkA ((by rw [hg]; exact (below_size (by repeat (first | (with_reducible first | exact HB.out | apply lA | apply lN | apply lD) | exact HB.out))) : w.heap.size ≤ gb125)); have n3_ := mkA ((by rw [hg]; exact (below_size (by repeat (first | (with_reducible first | exact HB.out | apply lA | apply lN | apply lD) | exact HB.out))) : w.heap.size ≤ gb125)); clear HB; have HB := n0_; have BK125 := n1_; have GW125 := n2_; have GE125 := n3_; clear n0_ n1_ n2_ n3_; clear hb hbox hg; have hcz10_0 : w9.cell? ⟨gb125, 0, none⟩ = some (.string a0_0) := (bC BK125.out 0).trans rfl; have hcz10_1 : w9.cell? ⟨gb125, 1, none⟩ = some (.string a0_1) := (bC BK125.out 1).trans rfl; have hcz10_2 : w9.cell? ⟨gb125, 2, none⟩ = some (.int .i64 a0_2) := (bC BK125.out 2).trans rfl; have hcz10_3 : w9.cell? ⟨gb125, 3, none⟩ = some (.int .i64 a0_3) := (bC BK125.out 3).trans rfl; have hfz10_0 := bF BK125.out 0; have hfz10_1 := bF BK125.out 1; have hfz10_2 := bF BK125.out 2; have hfz10_3 := bF BK125.out 3) | ((with_reducible refine gate_callee (f := 79) rfl ?_); refine goesL_ (some 5) rfl rfl Try.func79 (by kernel_rfl) rfl #[.string a0_0] rfl (by (try simp only [List.map_toArray, List.map_cons, List.map_nil]); first | done | rfl | (simp only [List.length_drop, List.length_take]; rfl)) ?_; (with_reducible refine (weighlockref22_Name.calls k a0_0 true _ A2.out).mono ?_); rintro e w' ⟨rfl, ⟨nd, rfl⟩⟩; refine ⟨_, rfl, ?_⟩) | (go_at_call 79; (with_reducible refine (weighlockref22_Name.calls k a0_1 true _ A4.out).mono ?_); rintro e w' ⟨rfl, ⟨nd, rfl⟩⟩))
      go_ret
      exact ⟨by first | rfl | (simp [errW_none, errW_some] <;> rfl) | (simp [*, errW_none, errW_some] <;> rfl), by repeat (first | (with_reducible first | exact HB.out | apply lA | apply lN | apply lD | refine lS ?_ GE125.out) | exact HB.out)⟩
     ·rw [if_neg c8] at H
      have c8b0 : decide (0 ≤ a0_3) = false := decide_eq_false c8
      clear c8
      obtain rfl := Option.some.inj H
      go_enter Try.func100, Try.ntmps100
      go_wp2_with (first | ((with_reducible refine gate_dst (N := 1) rfl ?_); refine box_event ?hg (N := 1) ?hd (cs := #[.string a0_0, .string a0_1, .int .i64 a0_2, .int .i64 a0_3]) (t := 166) ?hr ?_; (case hd => rfl); (case hg => rfl); (case hr => first | (go_simp; done) | (go_simp; rfl)); intro gb125 hg w11 hbox hb; have n0_ := mkA (zbS (by repeat (first | (with_reducible first | exact HB.out | apply lA | apply lN | apply lD) | exact HB.out)) hb); have n1_ := mkA (hbox); have n2_ := mkA ((by rw [hg]; exact (below_size (by repeat (first | (with_reducible first | exact HB.out | apply lA | apply lN | apply lD) | exact HB.out))) : w.heap.size ≤ gb125)); have n3_ := mkA ((by rw [hg]; exact (below_size (by repeat (first | (with_reducible first | exact HB.out | apply lA | apply lN | apply lD) | exact HB.out))) : w.heap.size ≤ gb125)); clear HB; have HB := n0_; have BK125 := n1_; have GW125 := n2_; have GE125 := n3_; clear n0_ n1_ n2_ n3_; clear hb hbox hg; have hcz12_0 : w11.cell? ⟨gb125, 0, none⟩ = some (.string a0_0) := (bC BK125.out 0).trans rfl; have hcz12_1 : w11.cell? ⟨gb125, 1, none⟩ = some (.string a0_1) := (bC BK125.out 1).trans rfl; have hcz12_2 : w11.cell? ⟨gb125, 2, none⟩ = some (.int .i64 a0_2) := (bC BK125.out 2).trans rfl; have hcz12_3 : w11.cell? ⟨gb125, 3, none⟩ = some (.int .i64 a0_3) := (bC BK125.out 3).trans rfl; have hfz12_0 := bF BK125.out 0; have hfz12_1 := bF BK125.out 1; have hfz12_2 := bF BK125.out 2; have hfz12_3 := bF BK125.out 3) | ((with_reducible refine gate_callee (f := 79) rfl ?_); refine goesL_ (some 5) rfl rfl Try.func79 (by kernel_rfl) rfl #[.string a0_0] rfl (by (try simp only [List.map_toArray, List.map_cons, List.map_nil]); first | done | rfl | (simp only [List.length_drop, List.length_take]; rfl)) ?_; (with_reducible refine (weighlockref22_Name.calls k a0_0 true _ A2.out).mono ?_); rintro e w' ⟨rfl, ⟨nd, rfl⟩⟩; refine ⟨_, rfl, ?_⟩) | (go_at_call 79; (with_reducible refine (weighlockref22_Name.calls k a0_1 true _ A4.out).mono ?_); rintro e w' ⟨rfl, ⟨nd, rfl⟩⟩))
      go_ret
      exact ⟨by first | rfl | (simp [errW_none, errW_some] <;> rfl) | (simp [*, errW_none, errW_some] <;> rfl), by repeat (first | (with_reducible first | exact HB.out | apply lA | apply lN | apply lD | refine lS ?_ GE125.out) | exact HB.out)⟩
    ·rw [if_neg c7] at H
     have c7b0 : decide (a0_2 ≤ 3) = false := decide_eq_false c7
     clear c7
     obtain rfl := Option.some.inj H
     go_enter Try.func100, Try.ntmps100
     go_wp2_with (first | ((with_reducible refine gate_dst (N := 1) rfl ?_); refine box_event ?hg (N := 1) ?hd (cs := #[.string a0_0, .string a0_1, .int .i64 a0_2, .int .i64 a0_3]) (t := 166) ?hr ?_; (case hd => rfl); (case hg => rfl); (case hr => first | (go_simp; done) | (go_simp; rfl)); intro gb125 hg w13 hbox hb; have n0_ := mkA (zbS (by repeat (first | (with_reducible first | exact HB.out | apply lA | apply lN | apply lD) | exact HB.out)) hb); have n1_ := mkA (hbox); have n2_ := mkA ((by rw [hg]; exact (below_size (by repeat (first | (with_reducible first | exact HB.out | apply lA | apply lN | apply lD) | exact HB.out))) : w.heap.size ≤ gb125)); have n3_ := mkA ((by rw [hg]; exact (below_size (by repeat (first | (with_reducible first | exact HB.out | apply lA | apply lN | apply lD) | exact HB.out))) : w.heap.size ≤ gb125)); clear HB; have HB := n0_; have BK125 := n1_; have GW125 := n2_; have GE125 := n3_; clear n0_ n1_ n2_ n3_; clear hb hbox hg; have hcz14_0 : w13.cell? ⟨gb125, 0, none⟩ = some (.string a0_0) := (bC BK125.out 0).trans rfl; have hcz14_1 : w13.cell? ⟨gb125, 1, none⟩ = some (.string a0_1) := (bC BK125.out 1).trans rfl; have hcz14_2 : w13.cell? ⟨gb125, 2, none⟩ = some (.int .i64 a0_2) := (bC BK125.out 2).trans rfl; have hcz14_3 : w13.cell? ⟨gb125, 3, none⟩ = some (.int .i64 a0_3) := (bC BK125.out 3).trans rfl; have hfz14_0 := bF BK125.out 0; have hfz14_1 := bF BK125.out 1; have hfz14_2 := bF BK125.out 2; have hfz14_3 := bF BK125.out 3) | ((with_reducible refine gate_callee (f := 79) rfl ?_); refine goesL_ (some 5) rfl rfl Try.func79 (by kernel_rfl) rfl #[.string a0_0] rfl (by (try simp only [List.map_toArray, List.map_cons, List.map_nil]); first | done | rfl | (simp only [List.length_drop, List.length_take]; rfl)) ?_; (with_reducible refine (weighlockref22_Name.calls k a0_0 true _ A2.out).mono ?_); rintro e w' ⟨rfl, ⟨nd, rfl⟩⟩; refine ⟨_, rfl, ?_⟩) | (go_at_call 79; (with_reducible refine (weighlockref22_Name.calls k a0_1 true _ A4.out).mono ?_); rintro e w' ⟨rfl, ⟨nd, rfl⟩⟩))
     go_ret
     exact ⟨by first | rfl | (simp [errW_none, errW_some] <;> rfl) | (simp [*, errW_none, errW_some] <;> rfl), by repeat (first | (with_reducible first | exact HB.out | apply lA | apply lN | apply lD | refine lS ?_ GE125.out) | exact HB.out)⟩
   ·rw [if_neg c6] at H
    have c6b0 : decide (0 ≤ a0_2) = false := decide_eq_false c6
    clear c6
    obtain rfl := Option.some.inj H
    go_enter Try.func100, Try.ntmps100
    go_wp2_with (first | ((with_reducible refine gate_dst (N := 1) rfl ?_); refine box_event ?hg (N := 1) ?hd (cs := #[.string a0_0, .string a0_1, .int .i64 a0_2, .int .i64 a0_3]) (t := 166) ?hr ?_; (case hd => rfl); (case hg => rfl); (case hr => first | (go_simp; done) | (go_simp; rfl)); intro gb125 hg w15 hbox hb; have n0_ := mkA (zbS (by repeat (first | (with_reducible first | exact HB.out | apply lA | apply lN | apply lD) | exact HB.out)) hb); have n1_ := mkA (hbox); have n2_ := mkA ((by rw [hg]; exact (below_size (by repeat (first | (with_reducible first | exact HB.out | apply lA | apply lN | apply lD) | exact HB.out))) : w.heap.size ≤ gb125)); have n3_ := mkA ((by rw [hg]; exact (below_size (by repeat (first | (with_reducible first | exact HB.out | apply lA | apply lN | apply lD) | exact HB.out))) : w.heap.size ≤ gb125)); clear HB; have HB := n0_; have BK125 := n1_; have GW125 := n2_; have GE125 := n3_; clear n0_ n1_ n2_ n3_; clear hb hbox hg; have hcz16_0 : w15.cell? ⟨gb125, 0, none⟩ = some (.string a0_0) := (bC BK125.out 0).trans rfl; have hcz16_1 : w15.cell? ⟨gb125, 1, none⟩ = some (.string a0_1) := (bC BK125.out 1).trans rfl; have hcz16_2 : w15.cell? ⟨gb125, 2, none⟩ = some (.int .i64 a0_2) := (bC BK125.out 2).trans rfl; have hcz16_3 : w15.cell? ⟨gb125, 3, none⟩ = some (.int .i64 a0_3) := (bC BK125.out 3).trans rfl; have hfz16_0 := bF BK125.out 0; have hfz16_1 := bF BK125.out 1; have hfz16_2 := bF BK125.out 2; have hfz16_3 := bF BK125.out 3) | ((with_reducible refine gate_callee (f := 79) rfl ?_); refine goesL_ (some 5) rfl rfl Try.func79 (by kernel_rfl) rfl #[.string a0_0] rfl (by (try simp only [List.map_toArray, List.map_cons, List.map_nil]); first | done | rfl | (simp only [List.length_drop, List.length_take]; rfl)) ?_; (with_reducible refine (weighlockref22_Name.calls k a0_0 true _ A2.out).mono ?_); rintro e w' ⟨rfl, ⟨nd, rfl⟩⟩; refine ⟨_, rfl, ?_⟩) | (go_at_call 79; (with_reducible refine (weighlockref22_Name.calls k a0_1 true _ A4.out).mono ?_); rintro e w' ⟨rfl, ⟨nd, rfl⟩⟩))
    go_ret
    exact ⟨by first | rfl | (simp [errW_none, errW_some] <;> rfl) | (simp [*, errW_none, errW_some] <;> rfl), by repeat (first | (with_reducible first | exact HB.out | apply lA | apply lN | apply lD | refine lS ?_ GE125.out) | exact HB.out)⟩
  ·replace c5 := Bool.eq_false_iff.mpr c5
   subst c5
   have H1 : (some false) = some r := by rw [if_neg (show ¬ (false = true) by decide)] at H; exact H
   clear H
   have H := H1
   clear H1
   obtain rfl := Option.some.inj H
   go_enter Try.func100, Try.ntmps100
   go_wp2_with (first | ((with_reducible refine gate_dst (N := 1) rfl ?_); refine box_event ?hg (N := 1) ?hd (cs := #[.string a0_0, .string a0_1, .int .i64 a0_2, .int .i64 a0_3]) (t := 166) ?hr ?_; (case hd => rfl); (case hg => rfl); (case hr => first | (go_simp; done) | (go_simp; rfl)); intro gb125 hg w17 hbox hb; have n0_ := mkA (zbS (by repeat (first | (with_reducible first | exact HB.out | apply lA | apply lN | apply lD) | exact HB.out)) hb); have n1_ := mkA (hbox); have n2_ := mkA ((by rw [hg]; exact (below_size (by repeat (first | (with_reducible first | exact HB.out | apply lA | apply lN | apply lD) | exact HB.out))) : w.heap.size ≤ gb125)); have n3_ := mkA ((by rw [hg]; exact (below_size (by repeat (first | (with_reducible first | exact HB.out | apply lA | apply lN | apply lD) | exact HB.out))) : w.heap.size ≤ gb125)); clear HB; have HB := n0_; have BK125 := n1_; have GW125 := n2_; have GE125 := n3_; clear n0_ n1_ n2_ n3_; clear hb hbox hg; have hcz18_0 : w17.cell? ⟨gb125, 0, none⟩ = some (.string a0_0) := (bC BK125.out 0).trans rfl; have hcz18_1 : w17.cell? ⟨gb125, 1, none⟩ = some (.string a0_1) := (bC BK125.out 1).trans rfl; have hcz18_2 : w17.cell? ⟨gb125, 2, none⟩ = some (.int .i64 a0_2) := (bC BK125.out 2).trans rfl; have hcz18_3 : w17.cell? ⟨gb125, 3, none⟩ = some (.int .i64 a0_3) := (bC BK125.out 3).trans rfl; have hfz18_0 := bF BK125.out 0; have hfz18_1 := bF BK125.out 1; have hfz18_2 := bF BK125.out 2; have hfz18_3 := bF BK125.out 3) | ((with_reducible refine gate_callee (f := 79) rfl ?_); refine goesL_ (some 5) rfl rfl Try.func79 (by kernel_rfl) rfl #[.string a0_0] rfl (by (try simp only [List.map_toArray, List.map_cons, List.map_nil]); first | done | rfl | (simp only [List.length_drop, List.length_take]; rfl)) ?_; (with_reducible refine (weighlockref22_Name.calls k a0_0 true _ A2.out).mono ?_); rintro e w' ⟨rfl, ⟨nd, rfl⟩⟩; refine ⟨_, rfl, ?_⟩) | (go_at_call 79; (with_reducible refine (weighlockref22_Name.calls k a0_1 false _ A4.out).mono ?_); rintro e w' ⟨rfl, ⟨nd, rfl⟩⟩))
   go_ret
   exact ⟨by first | rfl | (simp [errW_none, errW_some] <;> rfl) | (simp [*, errW_none, errW_some] <;> rfl), by repeat (first | (with_reducible first | exact HB.out | apply lA | apply lN | apply lD | refine lS ?_ GE125.out) | exact HB.out)⟩
 ·replace c3 := Bool.eq_false_iff.mpr c3
  subst c3
  have H1 : (some false) = some r := by rw [if_neg (show ¬ (false = true) by decide)] at H; exact H
  clear H
  have H := H1
  clear H1
  obtain rfl := Option.some.inj H
  go_enter Try.func100, Try.ntmps100
  go_wp2_with (first | ((with_reducible refine gate_dst (N := 1) rfl ?_); refine box_event ?hg (N := 1) ?hd (cs := #[.string a0_0, .string a0_1, .int .i64 a0_2, .int .i64 a0_3]) (t := 166) ?hr ?_; (case hd => rfl); (case hg => rfl); (case hr => first | (go_simp; done) | (go_simp; rfl)); intro gb125 hg w19 hbox hb; have n0_ := mkA (zbS (by repeat (first | (with_reducible first | exact HB.out | apply lA | apply lN | apply lD) | exact HB.out)) hb); have n1_ := mkA (hbox); have n2_ := mkA ((by rw [hg]; exact (below_size (by repeat (first | (with_reducible first | exact HB.out | apply lA | apply lN | apply lD) | exact HB.out))) : w.heap.size ≤ gb125)); have n3_ := mkA ((by rw [hg]; exact (below_size (by repeat (first | (with_reducible first | exact HB.out | apply lA | apply lN | apply lD) | exact HB.out))) : w.heap.size ≤ gb125)); clear HB; have HB := n0_; have BK125 := n1_; have GW125 := n2_; have GE125 := n3_; clear n0_ n1_ n2_ n3_; clear hb hbox hg; have hcz20_0 : w19.cell? ⟨gb125, 0, none⟩ = some (.string a0_0) := (bC BK125.out 0).trans rfl; have hcz20_1 : w19.cell? ⟨gb125, 1, none⟩ = some (.string a0_1) := (bC BK125.out 1).trans rfl; have hcz20_2 : w19.cell? ⟨gb125, 2, none⟩ = some (.int .i64 a0_2) := (bC BK125.out 2).trans rfl; have hcz20_3 : w19.cell? ⟨gb125, 3, none⟩ = some (.int .i64 a0_3) := (bC BK125.out 3).trans rfl; have hfz20_0 := bF BK125.out 0; have hfz20_1 := bF BK125.out 1; have hfz20_2 := bF BK125.out 2; have hfz20_3 := bF BK125.out 3) | ((with_reducible refine gate_callee (f := 79) rfl ?_); refine goesL_ (some 5) rfl rfl Try.func79 (by kernel_rfl) rfl #[.string a0_0] rfl (by (try simp only [List.map_toArray, List.map_cons, List.map_nil]); first | done | rfl | (simp only [List.length_drop, List.length_take]; rfl)) ?_; (with_reducible refine (weighlockref22_Name.calls k a0_0 false _ A2.out).mono ?_); rintro e w' ⟨rfl, ⟨nd, rfl⟩⟩; refine ⟨_, rfl, ?_⟩))
  go_ret
  exact ⟨by first | rfl | (simp [errW_none, errW_some] <;> rfl) | (simp [*, errW_none, errW_some] <;> rfl), by repeat (first | (with_reducible first | exact HB.out | apply lA | apply lN | apply lD | refine lS ?_ GE125.out) | exact HB.out)⟩
def weighlockref24_Groups.l0 : Nat → List (S166) → Int → List (S166) → Int → Int → Option (Int)
 | 0, _, _, _, _, _ => none
 | k + 1, x0, x3, x6, x7, x8 => if x8 < x7 then (if 0 ≤ x8 then (if x8 < (x6.length : Int) then (if x8 = 0 then (weighlockref24_Groups.l0 k x0 (wrap64 (x3 + 1)) x6 x7 (wrap64 (x8 + 1))) else (if 0 ≤ (wrap64 (x8 - 1)) then (if (wrap64 (x8 - 1)) < (x0.length : Int) then (if ((rd_T166 x6 x8).f0).toList = ((rd_T166 x0 (wrap64 (x8 - 1))).f0).toList then (weighlockref24_Groups.l0 k x0 x3 x6 x7 (wrap64 (x8 + 1))) else (weighlockref24_Groups.l0 k x0 (wrap64 (x3 + 1)) x6 x7 (wrap64 (x8 + 1)))) else (none)) else (none))) else (none)) else (none)) else (some x3)
def weighlockref24_Groups.f (k : Nat) (l0 : List (S166)) : Option (Int) := weighlockref24_Groups.l0 k l0 0 l0 (l0.length : Int) 0
theorem weighlockref24_Groups.mono_l : ∀ k, (∀ y0 y1 y2 y3 y4, LeO (weighlockref24_Groups.l0 k y0 y1 y2 y3 y4) (weighlockref24_Groups.l0 (k + 1) y0 y1 y2 y3 y4))
 | 0 => fun _ _ _ _ _ r h => by simp [weighlockref24_Groups.l0] at h
 | k + 1 => by
  have ih0 := weighlockref24_Groups.mono_l k
  ·intro y0 y1 y2 y3 y4
   unfold weighlockref24_Groups.l0
   repeat' first
   | (with_reducible exact ih0 _ _ _ _ _)
   | (with_reducible exact LeO.refl _)
   | (with_reducible exact LeO.none _)
   | (with_reducible refine LeO.ite ?_ ?_)
   | (with_reducible refine LeO.bind ?_ (fun _ => ?_))
   | exact ih0 _ _ _ _ _
   | exact LeO.none _
   | refine LeO.ite ?_ ?_
   | refine LeO.bind ?_ (fun _ => ?_)
theorem weighlockref24_Groups.mono : ∀ a0 k, LeO (weighlockref24_Groups.f k a0) (weighlockref24_Groups.f (k + 1) a0) := by
 intro a0 k
 have ih0 := weighlockref24_Groups.mono_l k
 unfold weighlockref24_Groups.f
 repeat' first
   | (with_reducible exact ih0 _ _ _ _ _)
   | (with_reducible exact LeO.refl _)
   | (with_reducible exact LeO.none _)
   | (with_reducible refine LeO.ite ?_ ?_)
   | (with_reducible refine LeO.bind ?_ (fun _ => ?_))
   | exact ih0 _ _ _ _ _
   | exact LeO.none _
   | refine LeO.ite ?_ ?_
   | refine LeO.bind ?_ (fun _ => ?_)
set_option maxHeartbeats 8000000 in
set_option maxRecDepth 100000 in
theorem weighlockref24_Groups.calls (k : Nat) (A0 : Option Addr) (c0 : Nat) (l0 : List (S166)) (r : Int) (w : World) (hr0 : Kd.C k166 w A0 l0.length l0) (hc0 : l0.length ≤ c0) (h : weighlockref24_Groups.f k l0 = some r) :
  Calls Try.prog 106 #[.slice A0 l0.length c0] w fun e w' => e = .returned (.int .i64 r) ∧ Below w.heap.size w w' := by
 have hu166 := Try.underlying166
 have HR0 := mkA hr0
 have HC0 := mkA hc0
 clear hr0 hc0
 have HB := mkA (Below.refl w.heap.size w)
 have H : (weighlockref24_Groups.l0 k l0 0 l0 (l0.length : Int) 0) = some r := h
 clear h
 have H' := mkA H
 clear H
 go_enter Try.func106, Try.ntmps106
 go_wp2
 repeat (go_quiet (fail); try go_wp2)
 go_loopg [3, 8] k (fun kq v3 v8 w' => ∃ (x3_1 : Int) (x8_1 : Int), v3 = .int .i64 x3_1 ∧ v8 = .int .i64 x8_1 ∧ Aside0 (weighlockref24_Groups.l0 kq l0 x3_1 l0 (l0.length : Int) x8_1 = some r) ∧ Aside0 (kq ≤ k) ∧ Aside0 (Below w.heap.size w w'))
 case atStart => exact ⟨(0), (0), (by first | rfl | (simp; done) | (simp [*]; done)), (by first | rfl | (simp; done) | (simp [*]; done)), H', ⟨Nat.le_refl _⟩, ⟨by repeat (first | (with_reducible first | exact HB.out | apply lA | apply lN | apply lD) | exact HB.out)⟩⟩
 case round =>
  clear H'
  try clear c1
  obtain ⟨x3_1, x8_1, rfl, rfl, HA, HK1, HB⟩ := hrel
  cases gk with
  | zero => exact absurd HA.out (by simp [weighlockref24_Groups.l0])
  | succ k1 =>
   have H := HA.out
   clear HA
   simp only [weighlockref24_Groups.l0] at H
   by_cases c2 : x8_1 < (l0.length : Int)
   ·rw [if_pos c2] at H
    have c2b0 : decide (x8_1 < (l0.length : Int)) = true := decide_eq_true c2
    clear c2
    by_cases c3 : 0 ≤ x8_1
    ·rw [if_pos c3] at H
     have c3b0 : decide (0 ≤ x8_1) = true := decide_eq_true c3
     clear c3
     by_cases c4 : x8_1 < (l0.length : Int)
     ·rw [if_pos c4] at H
      have c4b0 : decide (x8_1 < (l0.length : Int)) = true := decide_eq_true c4
      clear c4
      by_cases c5 : x8_1 = 0
      ·rw [if_pos c5] at H
       have c5b0 : (x8_1 == 0) = true := beq_iff_eq.mpr c5
       have c5b1 : (x8_1 != 0) = false := bne_eq_false_iff_eq.mpr c5
       clear c5
       have H' := mkA H
       clear H
       have p128 : 0 ≤ (x8_1 : Int) := of_decide_eq_true (by first | (with_reducible assumption) | assumption)
       have q128 : x8_1 < (l0.length : Int) := of_decide_eq_true (by first | (with_reducible assumption) | assumption)
       obtain ⟨ad128, e128, hx128_0, hx128_1, hx128_2, hx128_3⟩ := at_T166 HR0.out x8_1 p128 q128
       cases e128
       replace hx128_0 := (HB.out.cell (World.block_lt_of_cell? w _ hx128_0)).trans hx128_0
       replace hx128_1 := (HB.out.cell (World.block_lt_of_cell? w _ hx128_1)).trans hx128_1
       replace hx128_2 := (HB.out.cell (World.block_lt_of_cell? w _ hx128_2)).trans hx128_2
       replace hx128_3 := (HB.out.cell (World.block_lt_of_cell? w _ hx128_3)).trans hx128_3
       replace p128 := eq_true p128
       replace q128 := eq_true q128
       go_wp2_with (first | ((with_reducible refine gate_dst (N := 5) rfl ?_); refine box_event ?hg (N := 5) ?hd (cs := #[.string (⟨#[]⟩ : ByteArray), .string (⟨#[]⟩ : ByteArray), .int .i64 0, .int .i64 0]) (t := 166) ?hr ?_; (case hd => rfl); (case hg => rfl); (case hr => first | (go_simp; done) | (go_simp; rfl)); intro gb129 hg w6 hbox hb; have n0_ := mkA (zbS (by repeat (first | (with_reducible first | exact HB.out | apply lA | apply lN | apply lD) | exact HB.out)) hb); have n1_ := mkA (hbox); have n2_ := mkA ((by rw [hg]; exact (below_size (by repeat (first | (with_reducible first | exact HB.out | apply lA | apply lN | apply lD) | exact HB.out))) : w.heap.size ≤ gb129)); have n3_ := mkA ((by rw [hg]; exact (below_size (by repeat (first | (with_reducible first | exact HB.out | apply lA | apply lN | apply lD) | exact HB.out))) : w.heap.size ≤ gb129)); clear HB; have HB := n0_; have BK129 := n1_; have GW129 := n2_; have GE129 := n3_; clear n0_ n1_ n2_ n3_; clear hb hbox hg; have hcz7_0 : w6.cell? ⟨gb129, 0, none⟩ = some (.string (⟨#[]⟩ : ByteArray)) := (bC BK129.out 0).trans rfl; have hcz7_1 : w6.cell? ⟨gb129, 1, none⟩ = some (.string (⟨#[]⟩ : ByteArray)) := (bC BK129.out 1).trans rfl; have hcz7_2 : w6.cell? ⟨gb129, 2, none⟩ = some (.int .i64 0) := (bC BK129.out 2).trans rfl; have hcz7_3 : w6.cell? ⟨gb129, 3, none⟩ = some (.int .i64 0) := (bC BK129.out 3).trans rfl; have hfz7_0 := bF BK129.out 0; have hfz7_1 := bF BK129.out 1; have hfz7_2 := bF BK129.out 2; have hfz7_3 := bF BK129.out 3))
       repeat (go_quiet (first | ((with_reducible refine gate_dst (N := 5) rfl ?_); refine box_event ?hg (N := 5) ?hd (cs := #[.string (⟨#[]⟩ : ByteArray), .string (⟨#[]⟩ : ByteArray), .int .i64 0, .int .i64 0]) (t := 166) ?hr ?_; (case hd => rfl); (case hg => rfl); (case hr => first | (go_simp; done) | (go_simp; rfl)); intro gb129 hg w6 hbox hb; have n0_ := mkA (zbS (by repeat (first | (with_reducible first | exact HB.out | apply lA | apply lN | apply lD) | exact HB.out)) hb); have n1_ := mkA (hbox); have n2_ := mkA ((by rw [hg]; exact (below_size (by repeat (first | (with_reducible first | exact HB.out | apply lA | apply lN | apply lD) | exact HB.out))) : w.heap.size ≤ gb129)); have n3_ := mkA ((by rw [hg]; exact (below_size (by repeat (first | (with_reducible first | exact HB.out | apply lA | apply lN | apply lD) | exact HB.out))) : w.heap.size ≤ gb129)); clear HB; have HB := n0_; have BK129 := n1_; have GW129 := n2_; have GE129 := n3_; clear n0_ n1_ n2_ n3_; clear hb hbox hg; have hcz7_0 : w6.cell? ⟨gb129, 0, none⟩ = some (.string (⟨#[]⟩ : ByteArray)) := (bC BK129.out 0).trans rfl; have hcz7_1 : w6.cell? ⟨gb129, 1, none⟩ = some (.string (⟨#[]⟩ : ByteArray)) := (bC BK129.out 1).trans rfl; have hcz7_2 : w6.cell? ⟨gb129, 2, none⟩ = some (.int .i64 0) := (bC BK129.out 2).trans rfl; have hcz7_3 : w6.cell? ⟨gb129, 3, none⟩ = some (.int .i64 0) := (bC BK129.out 3).trans rfl; have hfz7_0 := bF BK129.out 0; have hfz7_1 := bF BK129.out 1; have hfz7_2 := bF BK129.out 2; have hfz7_3 := bF BK129.out 3)); try go_wp2_with (first | ((with_reducible refine gate_dst (N := 5) rfl ?_); refine box_event ?hg (N := 5) ?hd (cs := #[.string (⟨#[]⟩ : ByteArray), .string (⟨#[]⟩ : ByteArray), .int .i64 0, .int .i64 0]) (t := 166) ?hr ?_; (case hd => rfl); (case hg => rfl); (case hr => first | (go_simp; done) | (go_simp; rfl)); intro gb129 hg w6 hbox hb; have n0_ := mkA (zbS (by repeat (first | (with_reducible first | exact HB.out | apply lA | apply lN | apply lD) | exact HB.out)) hb); have n1_ := mkA (hbox); have n2_ := mkA ((by rw [hg]; exact (below_size (by repeat (first | (with_reducible first | exact HB.out | apply lA | apply lN | apply lD) | exact HB.out))) : w.heap.size ≤ gb129)); have n3_ := mkA ((by rw [hg]; exact (below_size (by repeat (first | (with_reducible first | exact HB.out | apply lA | apply lN | apply lD) | exact HB.out))) : w.heap.size ≤ gb129)); clear HB; have HB := n0_; have BK129 := n1_; have GW129 := n2_; have GE129 := n3_; clear n0_ n1_ n2_ n3_; clear hb hbox hg; have hcz7_0 : w6.cell? ⟨gb129, 0, none⟩ = some (.string (⟨#[]⟩ : ByteArray)) := (bC BK129.out 0).trans rfl; have hcz7_1 : w6.cell? ⟨gb129, 1, none⟩ = some (.string (⟨#[]⟩ : ByteArray)) := (bC BK129.out 1).trans rfl; have hcz7_2 : w6.cell? ⟨gb129, 2, none⟩ = some (.int .i64 0) := (bC BK129.out 2).trans rfl; have hcz7_3 : w6.cell? ⟨gb129, 3, none⟩ = some (.int .i64 0) := (bC BK129.out 3).trans rfl; have hfz7_0 := bF BK129.out 0; have hfz7_1 := bF BK129.out 1; have hfz7_2 := bF BK129.out 2; have hfz7_3 := bF BK129.out 3)))
       go_roundg k1
       case measure => have := HK1.out; omega
       case rel => exact ⟨(wrap64 (x3_1 + 1)), (wrap64 (x8_1 + 1)), (by first | rfl | (simp; done) | (simp [*]; done)), (by first | rfl | (simp; done) | (simp [*]; done)), H', ⟨by have := HK1.out; omega⟩, ⟨by repeat (first | (with_reducible first | exact HB.out | apply lA | apply lN | apply lD | refine lS ?_ GE129.out) | exact HB.out)⟩⟩
      ·rw [if_neg c5] at H
       have c5b0 : (x8_1 == 0) = false := beq_eq_false_iff_ne.mpr c5
       have c5b1 : (x8_1 != 0) = true := bne_iff_ne.mpr c5
       obtain ⟨ji8, hji8⟩ : ∃ j_ : Int, (wrap64 (x8_1 - 1)) = j_ := ⟨_, rfl⟩
       replace H : (if 0 ≤ (ji8) then (if (ji8) < (l0.length : Int) then (if ((rd_T166 l0 x8_1).f0).toList = ((rd_T166 l0 (ji8)).f0).toList then (weighlockref24_Groups.l0 k1 l0 x3_1 l0 (l0.length : Int) (wrap64 (x8_1 + 1))) else (weighlockref24_Groups.l0 k1 l0 (wrap64 (x3_1 + 1)) l0 (l0.length : Int) (wrap64 (x8_1 + 1)))) else (none)) else (none)) = some r := by first | (rw [hji8] at H; exact H) | (simp only [hji8] at H ⊢; exact H)
       have hji8w : (IntKind.i64.wrap (x8_1 - 1)) = ji8 := (i64_w _).trans hji8
       by_cases c9 : 0 ≤ (ji8)
       ·rw [if_pos c9] at H
        have c9b0 : decide (0 ≤ (ji8)) = true := decide_eq_true c9
        clear c9
        by_cases c10 : (ji8) < (l0.length : Int)
        ·rw [if_pos c10] at H
         have c10b0 : decide ((ji8) < (l0.length : Int)) = true := decide_eq_true c10
         clear c10
         by_cases c11 : ((rd_T166 l0 x8_1).f0).toList = ((rd_T166 l0 (ji8)).f0).toList
         ·rw [if_pos c11] at H
          have c11b0 : (((rd_T166 l0 x8_1).f0).toList == ((rd_T166 l0 (ji8)).f0).toList) = true := beq_iff_eq.mpr c11
          have c11b1 : (((rd_T166 l0 x8_1).f0).toList != ((rd_T166 l0 (ji8)).f0).toList) = false := bne_eq_false_iff_eq.mpr c11
          clear c11
          have H' := mkA H
          clear H
          have p128 : 0 ≤ (x8_1 : Int) := of_decide_eq_true (by first | (with_reducible assumption) | assumption)
          have q128 : x8_1 < (l0.length : Int) := of_decide_eq_true (by first | (with_reducible assumption) | assumption)
          obtain ⟨ad128, e128, hx128_0, hx128_1, hx128_2, hx128_3⟩ := at_T166 HR0.out x8_1 p128 q128
          cases e128
          replace hx128_0 := (HB.out.cell (World.block_lt_of_cell? w _ hx128_0)).trans hx128_0
          replace hx128_1 := (HB.out.cell (World.block_lt_of_cell? w _ hx128_1)).trans hx128_1
          replace hx128_2 := (HB.out.cell (World.block_lt_of_cell? w _ hx128_2)).trans hx128_2
          replace hx128_3 := (HB.out.cell (World.block_lt_of_cell? w _ hx128_3)).trans hx128_3
          replace p128 := eq_true p128
          replace q128 := eq_true q128
          go_wp2_with (first | ((with_reducible refine gate_dst (N := 5) rfl ?_); refine box_event ?hg (N := 5) ?hd (cs := #[.string (⟨#[]⟩ : ByteArray), .string (⟨#[]⟩ : ByteArray), .int .i64 0, .int .i64 0]) (t := 166) ?hr ?_; (case hd => rfl); (case hg => rfl); (case hr => first | (go_simp; done) | (go_simp; rfl)); intro gb129 hg w12 hbox hb; have n0_ := mkA (zbS (by repeat (first | (with_reducible first | exact HB.out | apply lA | apply lN | apply lD) | exact HB.out)) hb); have n1_ := mkA (hbox); have n2_ := mkA ((by rw [hg]; exact (below_size (by repeat (first | (with_reducible first | exact HB.out | apply lA | apply lN | apply lD) | exact HB.out))) : w.heap.size ≤ gb129)); have n3_ := mkA ((by rw [hg]; exact (below_size (by repeat (first | (with_reducible first | exact HB.out | apply lA | apply lN | apply lD) | exact HB.out))) : w.heap.size ≤ gb129)); clear HB; have HB := n0_; have BK129 := n1_; have GW129 := n2_; have GE129 := n3_; clear n0_ n1_ n2_ n3_; clear hb hbox hg; have hcz13_0 : w12.cell? ⟨gb129, 0, none⟩ = some (.string (⟨#[]⟩ : ByteArray)) := (bC BK129.out 0).trans rfl; have hcz13_1 : w12.cell? ⟨gb129, 1, none⟩ = some (.string (⟨#[]⟩ : ByteArray)) := (bC BK129.out 1).trans rfl; have hcz13_2 : w12.cell? ⟨gb129, 2, none⟩ = some (.int .i64 0) := (bC BK129.out 2).trans rfl; have hcz13_3 : w12.cell? ⟨gb129, 3, none⟩ = some (.int .i64 0) := (bC BK129.out 3).trans rfl; have hfz13_0 := bF BK129.out 0; have hfz13_1 := bF BK129.out 1; have hfz13_2 := bF BK129.out 2; have hfz13_3 := bF BK129.out 3; have p130 : 0 ≤ ((ji8) : Int) := of_decide_eq_true (by first | (with_reducible assumption) | assumption); have q130 : (ji8) < (l0.length : Int) := of_decide_eq_true (by first | (with_reducible assumption) | assumption); obtain ⟨ad130, e130, hx130_0, hx130_1, hx130_2, hx130_3⟩ := at_T166 HR0.out (ji8) p130 q130; obtain rfl : ad128 = ad130 := (by injection e130); have hn130_0 : ad128.block ≠ gb129 := Nat.ne_of_lt (Nat.lt_of_lt_of_le (by have := World.block_lt_of_cell? _ _ hx130_0; first | rwa [add_block] at this | exact this) GW129.out); have hn130_1 : ad128.block ≠ gb129 := Nat.ne_of_lt (Nat.lt_of_lt_of_le (by have := World.block_lt_of_cell? _ _ hx130_0; first | rwa [add_block] at this | exact this) GW129.out); have hn130_2 : ad128.block ≠ gb129 := Nat.ne_of_lt (Nat.lt_of_lt_of_le (by have := World.block_lt_of_cell? _ _ hx130_0; first | rwa [add_block] at this | exact this) GW129.out); have hn130_3 : ad128.block ≠ gb129 := Nat.ne_of_lt (Nat.lt_of_lt_of_le (by have := World.block_lt_of_cell? _ _ hx130_0; first | rwa [add_block] at this | exact this) GW129.out); replace hx130_0 := (HB.out.cell (World.block_lt_of_cell? w _ hx130_0)).trans hx130_0; replace hx130_1 := (HB.out.cell (World.block_lt_of_cell? w _ hx130_1)).trans hx130_1; replace hx130_2 := (HB.out.cell (World.block_lt_of_cell? w _ hx130_2)).trans hx130_2; replace hx130_3 := (HB.out.cell (World.block_lt_of_cell? w _ hx130_3)).trans hx130_3; replace hx130_0 := (cell_far (p := ⟨gb129, 0, none⟩) (by first | (rw [add_block]; exact hn130_0) | (show (Addr.add _ _).block ≠ _; rw [add_block]; exact hn130_0) | exact hn130_0) (.string ((rd_T166 l0 x8_1).f0))).trans hx130_0; replace hx130_1 := (cell_far (p := ⟨gb129, 0, none⟩) (by first | (rw [add_block]; exact hn130_0) | (show (Addr.add _ _).block ≠ _; rw [add_block]; exact hn130_0) | exact hn130_0) (.string ((rd_T166 l0 x8_1).f0))).trans hx130_1; replace hx130_2 := (cell_far (p := ⟨gb129, 0, none⟩) (by first | (rw [add_block]; exact hn130_0) | (show (Addr.add _ _).block ≠ _; rw [add_block]; exact hn130_0) | exact hn130_0) (.string ((rd_T166 l0 x8_1).f0))).trans hx130_2; replace hx130_3 := (cell_far (p := ⟨gb129, 0, none⟩) (by first | (rw [add_block]; exact hn130_0) | (show (Addr.add _ _).block ≠ _; rw [add_block]; exact hn130_0) | exact hn130_0) (.string ((rd_T166 l0 x8_1).f0))).trans hx130_3; replace hx130_0 := (cell_far (p := ⟨gb129, 1, none⟩) (by first | (rw [add_block]; exact hn130_1) | (show (Addr.add _ _).block ≠ _; rw [add_block]; exact hn130_1) | exact hn130_1) (.string ((rd_T166 l0 x8_1).f1.f0))).trans hx130_0; replace hx130_1 := (cell_far (p := ⟨gb129, 1, none⟩) (by first | (rw [add_block]; exact hn130_1) | (show (Addr.add _ _).block ≠ _; rw [add_block]; exact hn130_1) | exact hn130_1) (.string ((rd_T166 l0 x8_1).f1.f0))).trans hx130_1; replace hx130_2 := (cell_far (p := ⟨gb129, 1, none⟩) (by first | (rw [add_block]; exact hn130_1) | (show (Addr.add _ _).block ≠ _; rw [add_block]; exact hn130_1) | exact hn130_1) (.string ((rd_T166 l0 x8_1).f1.f0))).trans hx130_2; replace hx130_3 := (cell_far (p := ⟨gb129, 1, none⟩) (by first | (rw [add_block]; exact hn130_1) | (show (Addr.add _ _).block ≠ _; rw [add_block]; exact hn130_1) | exact hn130_1) (.string ((rd_T166 l0 x8_1).f1.f0))).trans hx130_3; replace hx130_0 := (cell_far (p := ⟨gb129, 2, none⟩) (by first | (rw [add_block]; exact hn130_2) | (show (Addr.add _ _).block ≠ _; rw [add_block]; exact hn130_2) | exact hn130_2) (.int .i64 ((rd_T166 l0 x8_1).f1.f1))).trans hx130_0; replace hx130_1 := (cell_far (p := ⟨gb129, 2, none⟩) (by first | (rw [add_block]; exact hn130_2) | (show (Addr.add _ _).block ≠ _; rw [add_block]; exact hn130_2) | exact hn130_2) (.int .i64 ((rd_T166 l0 x8_1).f1.f1))).trans hx130_1; replace hx130_2 := (cell_far (p := ⟨gb129, 2, none⟩) (by first | (rw [add_block]; exact hn130_2) | (show (Addr.add _ _).block ≠ _; rw [add_block]; exact hn130_2) | exact hn130_2) (.int .i64 ((rd_T166 l0 x8_1).f1.f1))).trans hx130_2; replace hx130_3 := (cell_far (p := ⟨gb129, 2, none⟩) (by first | (rw [add_block]; exact hn130_2) | (show (Addr.add _ _).block ≠ _; rw [add_block]; exact hn130_2) | exact hn130_2) (.int .i64 ((rd_T166 l0 x8_1).f1.f1))).trans hx130_3; replace hx130_0 := (cell_far (p := ⟨gb129, 3, none⟩) (by first | (rw [add_block]; exact hn130_3) | (show (Addr.add _ _).block ≠ _; rw [add_block]; exact hn130_3) | exact hn130_3) (.int .i64 ((rd_T166 l0 x8_1).f2))).trans hx130_0; replace hx130_1 := (cell_far (p := ⟨gb129, 3, none⟩) (by first | (rw [add_block]; exact hn130_3) | (show (Addr.add _ _).block ≠ _; rw [add_block]; exact hn130_3) | exact hn130_3) (.int .i64 ((rd_T166 l0 x8_1).f2))).trans hx130_1; replace hx130_2 := (cell_far (p := ⟨gb129, 3, none⟩) (by first | (rw [add_block]; exact hn130_3) | (show (Addr.add _ _).block ≠ _; rw [add_block]; exact hn130_3) | exact hn130_3) (.int .i64 ((rd_T166 l0 x8_1).f2))).trans hx130_2; replace hx130_3 := (cell_far (p := ⟨gb129, 3, none⟩) (by first | (rw [add_block]; exact hn130_3) | (show (Addr.add _ _).block ≠ _; rw [add_block]; exact hn130_3) | exact hn130_3) (.int .i64 ((rd_T166 l0 x8_1).f2))).trans hx130_3; (try have hy130_0 := fun (n_ : Nat) => (show ((((((w12.drewN n_).setCell ⟨gb129, 0, none⟩ (.string ((rd_T166 l0 x8_1).f0))).setCell ⟨gb129, 1, none⟩ (.string ((rd_T166 l0 x8_1).f1.f0))).setCell ⟨gb129, 2, none⟩ (.int .i64 ((rd_T166 l0 x8_1).f1.f1))).setCell ⟨gb129, 3, none⟩ (.int .i64 ((rd_T166 l0 x8_1).f2)))).cell? _ = some _ from hx130_0)); (try have hy130_1 := fun (n_ : Nat) => (show ((((((w12.drewN n_).setCell ⟨gb129, 0, none⟩ (.string ((rd_T166 l0 x8_1).f0))).setCell ⟨gb129, 1, none⟩ (.string ((rd_T166 l0 x8_1).f1.f0))).setCell ⟨gb129, 2, none⟩ (.int .i64 ((rd_T166 l0 x8_1).f1.f1))).setCell ⟨gb129, 3, none⟩ (.int .i64 ((rd_T166 l0 x8_1).f2)))).cell? _ = some _ from hx130_1)); (try have hy130_2 := fun (n_ : Nat) => (show ((((((w12.drewN n_).setCell ⟨gb129, 0, none⟩ (.string ((rd_T166 l0 x8_1).f0))).setCell ⟨gb129, 1, none⟩ (.string ((rd_T166 l0 x8_1).f1.f0))).setCell ⟨gb129, 2, none⟩ (.int .i64 ((rd_T166 l0 x8_1).f1.f1))).setCell ⟨gb129, 3, none⟩ (.int .i64 ((rd_T166 l0 x8_1).f2)))).cell? _ = some _ from hx130_2)); (try have hy130_3 := fun (n_ : Nat) => (show ((((((w12.drewN n_).setCell ⟨gb129, 0, none⟩ (.string ((rd_T166 l0 x8_1).f0))).setCell ⟨gb129, 1, none⟩ (.string ((rd_T166 l0 x8_1).f1.f0))).setCell ⟨gb129, 2, none⟩ (.int .i64 ((rd_T166 l0 x8_1).f1.f1))).setCell ⟨gb129, 3, none⟩ (.int .i64 ((rd_T166 l0 x8_1).f2)))).cell? _ = some _ from hx130_3)); clear hn130_0; clear hn130_1; clear hn130_2; clear hn130_3; replace p130 := eq_true p130; replace q130 := eq_true q130))
          repeat (go_quiet (first | ((with_reducible refine gate_dst (N := 5) rfl ?_); refine box_event ?hg (N := 5) ?hd (cs := #[.string (⟨#[]⟩ : ByteArray), .string (⟨#[]⟩ : ByteArray), .int .i64 0, .int .i64 0]) (t := 166) ?hr ?_; (case hd => rfl); (case hg => rfl); (case hr => first | (go_simp; done) | (go_simp; rfl)); intro gb129 hg w12 hbox hb; have n0_ := mkA (zbS (by repeat (first | (with_reducible first | exact HB.out | apply lA | apply lN | apply lD) | exact HB.out)) hb); have n1_ := mkA (hbox); have n2_ := mkA ((by rw [hg]; exact (below_size (by repeat (first | (with_reducible first | exact HB.out | apply lA | apply lN | apply lD) | exact HB.out))) : w.heap.size ≤ gb129)); have n3_ := mkA ((by rw [hg]; exact (below_size (by repeat (first | (with_reducible first | exact HB.out | apply lA | apply lN | apply lD) | exact HB.out))) : w.heap.size ≤ gb129)); clear HB; have HB := n0_; have BK129 := n1_; have GW129 := n2_; have GE129 := n3_; clear n0_ n1_ n2_ n3_; clear hb hbox hg; have hcz13_0 : w12.cell? ⟨gb129, 0, none⟩ = some (.string (⟨#[]⟩ : ByteArray)) := (bC BK129.out 0).trans rfl; have hcz13_1 : w12.cell? ⟨gb129, 1, none⟩ = some (.string (⟨#[]⟩ : ByteArray)) := (bC BK129.out 1).trans rfl; have hcz13_2 : w12.cell? ⟨gb129, 2, none⟩ = some (.int .i64 0) := (bC BK129.out 2).trans rfl; have hcz13_3 : w12.cell? ⟨gb129, 3, none⟩ = some (.int .i64 0) := (bC BK129.out 3).trans rfl; have hfz13_0 := bF BK129.out 0; have hfz13_1 := bF BK129.out 1; have hfz13_2 := bF BK129.out 2; have hfz13_3 := bF BK129.out 3; have p130 : 0 ≤ ((ji8) : Int) := of_decide_eq_true (by first | (with_reducible assumption) | assumption); have q130 : (ji8) < (l0.length : Int) := of_decide_eq_true (by first | (with_reducible assumption) | assumption); obtain ⟨ad130, e130, hx130_0, hx130_1, hx130_2, hx130_3⟩ := at_T166 HR0.out (ji8) p130 q130; obtain rfl : ad128 = ad130 := (by injection e130); have hn130_0 : ad128.block ≠ gb129 := Nat.ne_of_lt (Nat.lt_of_lt_of_le (by have := World.block_lt_of_cell? _ _ hx130_0; first | rwa [add_block] at this | exact this) GW129.out); have hn130_1 : ad128.block ≠ gb129 := Nat.ne_of_lt (Nat.lt_of_lt_of_le (by have := World.block_lt_of_cell? _ _ hx130_0; first | rwa [add_block] at this | exact this) GW129.out); have hn130_2 : ad128.block ≠ gb129 := Nat.ne_of_lt (Nat.lt_of_lt_of_le (by have := World.block_lt_of_cell? _ _ hx130_0; first | rwa [add_block] at this | exact this) GW129.out); have hn130_3 : ad128.block ≠ gb129 := Nat.ne_of_lt (Nat.lt_of_lt_of_le (by have := World.block_lt_of_cell? _ _ hx130_0; first | rwa [add_block] at this | exact this) GW129.out); replace hx130_0 := (HB.out.cell (World.block_lt_of_cell? w _ hx130_0)).trans hx130_0; replace hx130_1 := (HB.out.cell (World.block_lt_of_cell? w _ hx130_1)).trans hx130_1; replace hx130_2 := (HB.out.cell (World.block_lt_of_cell? w _ hx130_2)).trans hx130_2; replace hx130_3 := (HB.out.cell (World.block_lt_of_cell? w _ hx130_3)).trans hx130_3; replace hx130_0 := (cell_far (p := ⟨gb129, 0, none⟩) (by first | (rw [add_block]; exact hn130_0) | (show (Addr.add _ _).block ≠ _; rw [add_block]; exact hn130_0) | exact hn130_0) (.string ((rd_T166 l0 x8_1).f0))).trans hx130_0; replace hx130_1 := (cell_far (p := ⟨gb129, 0, none⟩) (by first | (rw [add_block]; exact hn130_0) | (show (Addr.add _ _).block ≠ _; rw [add_block]; exact hn130_0) | exact hn130_0) (.string ((rd_T166 l0 x8_1).f0))).trans hx130_1; replace hx130_2 := (cell_far (p := ⟨gb129, 0, none⟩) (by first | (rw [add_block]; exact hn130_0) | (show (Addr.add _ _).block ≠ _; rw [add_block]; exact hn130_0) | exact hn130_0) (.string ((rd_T166 l0 x8_1).f0))).trans hx130_2; replace hx130_3 := (cell_far (p := ⟨gb129, 0, none⟩) (by first | (rw [add_block]; exact hn130_0) | (show (Addr.add _ _).block ≠ _; rw [add_block]; exact hn130_0) | exact hn130_0) (.string ((rd_T166 l0 x8_1).f0))).trans hx130_3; replace hx130_0 := (cell_far (p := ⟨gb129, 1, none⟩) (by first | (rw [add_block]; exact hn130_1) | (show (Addr.add _ _).block ≠ _; rw [add_block]; exact hn130_1) | exact hn130_1) (.string ((rd_T166 l0 x8_1).f1.f0))).trans hx130_0; replace hx130_1 := (cell_far (p := ⟨gb129, 1, none⟩) (by first | (rw [add_block]; exact hn130_1) | (show (Addr.add _ _).block ≠ _; rw [add_block]; exact hn130_1) | exact hn130_1) (.string ((rd_T166 l0 x8_1).f1.f0))).trans hx130_1; replace hx130_2 := (cell_far (p := ⟨gb129, 1, none⟩) (by first | (rw [add_block]; exact hn130_1) | (show (Addr.add _ _).block ≠ _; rw [add_block]; exact hn130_1) | exact hn130_1) (.string ((rd_T166 l0 x8_1).f1.f0))).trans hx130_2; replace hx130_3 := (cell_far (p := ⟨gb129, 1, none⟩) (by first | (rw [add_block]; exact hn130_1) | (show (Addr.add _ _).block ≠ _; rw [add_block]; exact hn130_1) | exact hn130_1) (.string ((rd_T166 l0 x8_1).f1.f0))).trans hx130_3; replace hx130_0 := (cell_far (p := ⟨gb129, 2, none⟩) (by first | (rw [add_block]; exact hn130_2) | (show (Addr.add _ _).block ≠ _; rw [add_block]; exact hn130_2) | exact hn130_2) (.int .i64 ((rd_T166 l0 x8_1).f1.f1))).trans hx130_0; replace hx130_1 := (cell_far (p := ⟨gb129, 2, none⟩) (by first | (rw [add_block]; exact hn130_2) | (show (Addr.add _ _).block ≠ _; rw [add_block]; exact hn130_2) | exact hn130_2) (.int .i64 ((rd_T166 l0 x8_1).f1.f1))).trans hx130_1; replace hx130_2 := (cell_far (p := ⟨gb129, 2, none⟩) (by first | (rw [add_block]; exact hn130_2) | (show (Addr.add _ _).block ≠ _; rw [add_block]; exact hn130_2) | exact hn130_2) (.int .i64 ((rd_T166 l0 x8_1).f1.f1))).trans hx130_2; replace hx130_3 := (cell_far (p := ⟨gb129, 2, none⟩) (by first | (rw [add_block]; exact hn130_2) | (show (Addr.add _ _).block ≠ _; rw [add_block]; exact hn130_2) | exact hn130_2) (.int .i64 ((rd_T166 l0 x8_1).f1.f1))).trans hx130_3; replace hx130_0 := (cell_far (p := ⟨gb129, 3, none⟩) (by first | (rw [add_block]; exact hn130_3) | (show (Addr.add _ _).block ≠ _; rw [add_block]; exact hn130_3) | exact hn130_3) (.int .i64 ((rd_T166 l0 x8_1).f2))).trans hx130_0; replace hx130_1 := (cell_far (p := ⟨gb129, 3, none⟩) (by first | (rw [add_block]; exact hn130_3) | (show (Addr.add _ _).block ≠ _; rw [add_block]; exact hn130_3) | exact hn130_3) (.int .i64 ((rd_T166 l0 x8_1).f2))).trans hx130_1; replace hx130_2 := (cell_far (p := ⟨gb129, 3, none⟩) (by first | (rw [add_block]; exact hn130_3) | (show (Addr.add _ _).block ≠ _; rw [add_block]; exact hn130_3) | exact hn130_3) (.int .i64 ((rd_T166 l0 x8_1).f2))).trans hx130_2; replace hx130_3 := (cell_far (p := ⟨gb129, 3, none⟩) (by first | (rw [add_block]; exact hn130_3) | (show (Addr.add _ _).block ≠ _; rw [add_block]; exact hn130_3) | exact hn130_3) (.int .i64 ((rd_T166 l0 x8_1).f2))).trans hx130_3; (try have hy130_0 := fun (n_ : Nat) => (show ((((((w12.drewN n_).setCell ⟨gb129, 0, none⟩ (.string ((rd_T166 l0 x8_1).f0))).setCell ⟨gb129, 1, none⟩ (.string ((rd_T166 l0 x8_1).f1.f0))).setCell ⟨gb129, 2, none⟩ (.int .i64 ((rd_T166 l0 x8_1).f1.f1))).setCell ⟨gb129, 3, none⟩ (.int .i64 ((rd_T166 l0 x8_1).f2)))).cell? _ = some _ from hx130_0)); (try have hy130_1 := fun (n_ : Nat) => (show ((((((w12.drewN n_).setCell ⟨gb129, 0, none⟩ (.string ((rd_T166 l0 x8_1).f0))).setCell ⟨gb129, 1, none⟩ (.string ((rd_T166 l0 x8_1).f1.f0))).setCell ⟨gb129, 2, none⟩ (.int .i64 ((rd_T166 l0 x8_1).f1.f1))).setCell ⟨gb129, 3, none⟩ (.int .i64 ((rd_T166 l0 x8_1).f2)))).cell? _ = some _ from hx130_1)); (try have hy130_2 := fun (n_ : Nat) => (show ((((((w12.drewN n_).setCell ⟨gb129, 0, none⟩ (.string ((rd_T166 l0 x8_1).f0))).setCell ⟨gb129, 1, none⟩ (.string ((rd_T166 l0 x8_1).f1.f0))).setCell ⟨gb129, 2, none⟩ (.int .i64 ((rd_T166 l0 x8_1).f1.f1))).setCell ⟨gb129, 3, none⟩ (.int .i64 ((rd_T166 l0 x8_1).f2)))).cell? _ = some _ from hx130_2)); (try have hy130_3 := fun (n_ : Nat) => (show ((((((w12.drewN n_).setCell ⟨gb129, 0, none⟩ (.string ((rd_T166 l0 x8_1).f0))).setCell ⟨gb129, 1, none⟩ (.string ((rd_T166 l0 x8_1).f1.f0))).setCell ⟨gb129, 2, none⟩ (.int .i64 ((rd_T166 l0 x8_1).f1.f1))).setCell ⟨gb129, 3, none⟩ (.int .i64 ((rd_T166 l0 x8_1).f2)))).cell? _ = some _ from hx130_3)); clear hn130_0; clear hn130_1; clear hn130_2; clear hn130_3; replace p130 := eq_true p130; replace q130 := eq_true q130)); try go_wp2_with (first | ((with_reducible refine gate_dst (N := 5) rfl ?_); refine box_event ?hg (N := 5) ?hd (cs := #[.string (⟨#[]⟩ : ByteArray), .string (⟨#[]⟩ : ByteArray), .int .i64 0, .int .i64 0]) (t := 166) ?hr ?_; (case hd => rfl); (case hg => rfl); (case hr => first | (go_simp; done) | (go_simp; rfl)); intro gb129 hg w12 hbox hb; have n0_ := mkA (zbS (by repeat (first | (with_reducible first | exact HB.out | apply lA | apply lN | apply lD) | exact HB.out)) hb); have n1_ := mkA (hbox); have n2_ := mkA ((by rw [hg]; exact (below_size (by repeat (first | (with_reducible first | exact HB.out | apply lA | apply lN | apply lD) | exact HB.out))) : w.heap.size ≤ gb129)); have n3_ := mkA ((by rw [hg]; exact (below_size (by repeat (first | (with_reducible first | exact HB.out | apply lA | apply lN | apply lD) | exact HB.out))) : w.heap.size ≤ gb129)); clear HB; have HB := n0_; have BK129 := n1_; have GW129 := n2_; have GE129 := n3_; clear n0_ n1_ n2_ n3_; clear hb hbox hg; have hcz13_0 : w12.cell? ⟨gb129, 0, none⟩ = some (.string (⟨#[]⟩ : ByteArray)) := (bC BK129.out 0).trans rfl; have hcz13_1 : w12.cell? ⟨gb129, 1, none⟩ = some (.string (⟨#[]⟩ : ByteArray)) := (bC BK129.out 1).trans rfl; have hcz13_2 : w12.cell? ⟨gb129, 2, none⟩ = some (.int .i64 0) := (bC BK129.out 2).trans rfl; have hcz13_3 : w12.cell? ⟨gb129, 3, none⟩ = some (.int .i64 0) := (bC BK129.out 3).trans rfl; have hfz13_0 := bF BK129.out 0; have hfz13_1 := bF BK129.out 1; have hfz13_2 := bF BK129.out 2; have hfz13_3 := bF BK129.out 3; have p130 : 0 ≤ ((ji8) : Int) := of_decide_eq_true (by first | (with_reducible assumption) | assumption); have q130 : (ji8) < (l0.length : Int) := of_decide_eq_true (by first | (with_reducible assumption) | assumption); obtain ⟨ad130, e130, hx130_0, hx130_1, hx130_2, hx130_3⟩ := at_T166 HR0.out (ji8) p130 q130; obtain rfl : ad128 = ad130 := (by injection e130); have hn130_0 : ad128.block ≠ gb129 := Nat.ne_of_lt (Nat.lt_of_lt_of_le (by have := World.block_lt_of_cell? _ _ hx130_0; first | rwa [add_block] at this | exact this) GW129.out); have hn130_1 : ad128.block ≠ gb129 := Nat.ne_of_lt (Nat.lt_of_lt_of_le (by have := World.block_lt_of_cell? _ _ hx130_0; first | rwa [add_block] at this | exact this) GW129.out); have hn130_2 : ad128.block ≠ gb129 := Nat.ne_of_lt (Nat.lt_of_lt_of_le (by have := World.block_lt_of_cell? _ _ hx130_0; first | rwa [add_block] at this | exact this) GW129.out); have hn130_3 : ad128.block ≠ gb129 := Nat.ne_of_lt (Nat.lt_of_lt_of_le (by have := World.block_lt_of_cell? _ _ hx130_0; first | rwa [add_block] at this | exact this) GW129.out); replace hx130_0 := (HB.out.cell (World.block_lt_of_cell? w _ hx130_0)).trans hx130_0; replace hx130_1 := (HB.out.cell (World.block_lt_of_cell? w _ hx130_1)).trans hx130_1; replace hx130_2 := (HB.out.cell (World.block_lt_of_cell? w _ hx130_2)).trans hx130_2; replace hx130_3 := (HB.out.cell (World.block_lt_of_cell? w _ hx130_3)).trans hx130_3; replace hx130_0 := (cell_far (p := ⟨gb129, 0, none⟩) (by first | (rw [add_block]; exact hn130_0) | (show (Addr.add _ _).block ≠ _; rw [add_block]; exact hn130_0) | exact hn130_0) (.string ((rd_T166 l0 x8_1).f0))).trans hx130_0; replace hx130_1 := (cell_far (p := ⟨gb129, 0, none⟩) (by first | (rw [add_block]; exact hn130_0) | (show (Addr.add _ _).block ≠ _; rw [add_block]; exact hn130_0) | exact hn130_0) (.string ((rd_T166 l0 x8_1).f0))).trans hx130_1; replace hx130_2 := (cell_far (p := ⟨gb129, 0, none⟩) (by first | (rw [add_block]; exact hn130_0) | (show (Addr.add _ _).block ≠ _; rw [add_block]; exact hn130_0) | exact hn130_0) (.string ((rd_T166 l0 x8_1).f0))).trans hx130_2; replace hx130_3 := (cell_far (p := ⟨gb129, 0, none⟩) (by first | (rw [add_block]; exact hn130_0) | (show (Addr.add _ _).block ≠ _; rw [add_block]; exact hn130_0) | exact hn130_0) (.string ((rd_T166 l0 x8_1).f0))).trans hx130_3; replace hx130_0 := (cell_far (p := ⟨gb129, 1, none⟩) (by first | (rw [add_block]; exact hn130_1) | (show (Addr.add _ _).block ≠ _; rw [add_block]; exact hn130_1) | exact hn130_1) (.string ((rd_T166 l0 x8_1).f1.f0))).trans hx130_0; replace hx130_1 := (cell_far (p := ⟨gb129, 1, none⟩) (by first | (rw [add_block]; exact hn130_1) | (show (Addr.add _ _).block ≠ _; rw [add_block]; exact hn130_1) | exact hn130_1) (.string ((rd_T166 l0 x8_1).f1.f0))).trans hx130_1; replace hx130_2 := (cell_far (p := ⟨gb129, 1, none⟩) (by first | (rw [add_block]; exact hn130_1) | (show (Addr.add _ _).block ≠ _; rw [add_block]; exact hn130_1) | exact hn130_1) (.string ((rd_T166 l0 x8_1).f1.f0))).trans hx130_2; replace hx130_3 := (cell_far (p := ⟨gb129, 1, none⟩) (by first | (rw [add_block]; exact hn130_1) | (show (Addr.add _ _).block ≠ _; rw [add_block]; exact hn130_1) | exact hn130_1) (.string ((rd_T166 l0 x8_1).f1.f0))).trans hx130_3; replace hx130_0 := (cell_far (p := ⟨gb129, 2, none⟩) (by first | (rw [add_block]; exact hn130_2) | (show (Addr.add _ _).block ≠ _; rw [add_block]; exact hn130_2) | exact hn130_2) (.int .i64 ((rd_T166 l0 x8_1).f1.f1))).trans hx130_0; replace hx130_1 := (cell_far (p := ⟨gb129, 2, none⟩) (by first | (rw [add_block]; exact hn130_2) | (show (Addr.add _ _).block ≠ _; rw [add_block]; exact hn130_2) | exact hn130_2) (.int .i64 ((rd_T166 l0 x8_1).f1.f1))).trans hx130_1; replace hx130_2 := (cell_far (p := ⟨gb129, 2, none⟩) (by first | (rw [add_block]; exact hn130_2) | (show (Addr.add _ _).block ≠ _; rw [add_block]; exact hn130_2) | exact hn130_2) (.int .i64 ((rd_T166 l0 x8_1).f1.f1))).trans hx130_2; replace hx130_3 := (cell_far (p := ⟨gb129, 2, none⟩) (by first | (rw [add_block]; exact hn130_2) | (show (Addr.add _ _).block ≠ _; rw [add_block]; exact hn130_2) | exact hn130_2) (.int .i64 ((rd_T166 l0 x8_1).f1.f1))).trans hx130_3; replace hx130_0 := (cell_far (p := ⟨gb129, 3, none⟩) (by first | (rw [add_block]; exact hn130_3) | (show (Addr.add _ _).block ≠ _; rw [add_block]; exact hn130_3) | exact hn130_3) (.int .i64 ((rd_T166 l0 x8_1).f2))).trans hx130_0; replace hx130_1 := (cell_far (p := ⟨gb129, 3, none⟩) (by first | (rw [add_block]; exact hn130_3) | (show (Addr.add _ _).block ≠ _; rw [add_block]; exact hn130_3) | exact hn130_3) (.int .i64 ((rd_T166 l0 x8_1).f2))).trans hx130_1; replace hx130_2 := (cell_far (p := ⟨gb129, 3, none⟩) (by first | (rw [add_block]; exact hn130_3) | (show (Addr.add _ _).block ≠ _; rw [add_block]; exact hn130_3) | exact hn130_3) (.int .i64 ((rd_T166 l0 x8_1).f2))).trans hx130_2; replace hx130_3 := (cell_far (p := ⟨gb129, 3, none⟩) (by first | (rw [add_block]; exact hn130_3) | (show (Addr.add _ _).block ≠ _; rw [add_block]; exact hn130_3) | exact hn130_3) (.int .i64 ((rd_T166 l0 x8_1).f2))).trans hx130_3; (try have hy130_0 := fun (n_ : Nat) => (show ((((((w12.drewN n_).setCell ⟨gb129, 0, none⟩ (.string ((rd_T166 l0 x8_1).f0))).setCell ⟨gb129, 1, none⟩ (.string ((rd_T166 l0 x8_1).f1.f0))).setCell ⟨gb129, 2, none⟩ (.int .i64 ((rd_T166 l0 x8_1).f1.f1))).setCell ⟨gb129, 3, none⟩ (.int .i64 ((rd_T166 l0 x8_1).f2)))).cell? _ = some _ from hx130_0)); (try have hy130_1 := fun (n_ : Nat) => (show ((((((w12.drewN n_).setCell ⟨gb129, 0, none⟩ (.string ((rd_T166 l0 x8_1).f0))).setCell ⟨gb129, 1, none⟩ (.string ((rd_T166 l0 x8_1).f1.f0))).setCell ⟨gb129, 2, none⟩ (.int .i64 ((rd_T166 l0 x8_1).f1.f1))).setCell ⟨gb129, 3, none⟩ (.int .i64 ((rd_T166 l0 x8_1).f2)))).cell? _ = some _ from hx130_1)); (try have hy130_2 := fun (n_ : Nat) => (show ((((((w12.drewN n_).setCell ⟨gb129, 0, none⟩ (.string ((rd_T166 l0 x8_1).f0))).setCell ⟨gb129, 1, none⟩ (.string ((rd_T166 l0 x8_1).f1.f0))).setCell ⟨gb129, 2, none⟩ (.int .i64 ((rd_T166 l0 x8_1).f1.f1))).setCell ⟨gb129, 3, none⟩ (.int .i64 ((rd_T166 l0 x8_1).f2)))).cell? _ = some _ from hx130_2)); (try have hy130_3 := fun (n_ : Nat) => (show ((((((w12.drewN n_).setCell ⟨gb129, 0, none⟩ (.string ((rd_T166 l0 x8_1).f0))).setCell ⟨gb129, 1, none⟩ (.string ((rd_T166 l0 x8_1).f1.f0))).setCell ⟨gb129, 2, none⟩ (.int .i64 ((rd_T166 l0 x8_1).f1.f1))).setCell ⟨gb129, 3, none⟩ (.int .i64 ((rd_T166 l0 x8_1).f2)))).cell? _ = some _ from hx130_3)); clear hn130_0; clear hn130_1; clear hn130_2; clear hn130_3; replace p130 := eq_true p130; replace q130 := eq_true q130)))
          go_roundg k1
          case measure => have := HK1.out; omega
          case rel => exact ⟨(x3_1), (wrap64 (x8_1 + 1)), (by first | rfl | (simp; done) | (simp [*]; done)), (by first | rfl | (simp; done) | (simp [*]; done)), H', ⟨by have := HK1.out; omega⟩, ⟨by repeat (first | (with_reducible first | exact HB.out | apply lA | apply lN | apply lD | refine lS ?_ GE129.out) | exact HB.out)⟩⟩
         ·rw [if_neg c11] at H
          have c11b0 : (((rd_T166 l0 x8_1).f0).toList == ((rd_T166 l0 (ji8)).f0).toList) = false := beq_eq_false_iff_ne.mpr c11
          have c11b1 : (((rd_T166 l0 x8_1).f0).toList != ((rd_T166 l0 (ji8)).f0).toList) = true := bne_iff_ne.mpr c11
          have H' := mkA H
          clear H
          have p128 : 0 ≤ (x8_1 : Int) := of_decide_eq_true (by first | (with_reducible assumption) | assumption)
          have q128 : x8_1 < (l0.length : Int) := of_decide_eq_true (by first | (with_reducible assumption) | assumption)
          obtain ⟨ad128, e128, hx128_0, hx128_1, hx128_2, hx128_3⟩ := at_T166 HR0.out x8_1 p128 q128
          cases e128
          replace hx128_0 := (HB.out.cell (World.block_lt_of_cell? w _ hx128_0)).trans hx128_0
          replace hx128_1 := (HB.out.cell (World.block_lt_of_cell? w _ hx128_1)).trans hx128_1
          replace hx128_2 := (HB.out.cell (World.block_lt_of_cell? w _ hx128_2)).trans hx128_2
          replace hx128_3 := (HB.out.cell (World.block_lt_of_cell? w _ hx128_3)).trans hx128_3
          replace p128 := eq_true p128
          replace q128 := eq_true q128
          go_wp2_with (first | ((with_reducible refine gate_dst (N := 5) rfl ?_); refine box_event ?hg (N := 5) ?hd (cs := #[.string (⟨#[]⟩ : ByteArray), .string (⟨#[]⟩ : ByteArray), .int .i64 0, .int .i64 0]) (t := 166) ?hr ?_; (case hd => rfl); (case hg => rfl); (case hr => first | (go_simp; done) | (go_simp; rfl)); intro gb129 hg w14 hbox hb; have n0_ := mkA (zbS (by repeat (first | (with_reducible first | exact HB.out | apply lA | apply lN | apply lD) | exact HB.out)) hb); have n1_ := mkA (hbox); have n2_ := mkA ((by rw [hg]; exact (below_size (by repeat (first | (with_reducible first | exact HB.out | apply lA | apply lN | apply lD) | exact HB.out))) : w.heap.size ≤ gb129)); have n3_ := mkA ((by rw [hg]; exact (below_size (by repeat (first | (with_reducible first | exact HB.out | apply lA | apply lN | apply lD) | exact HB.out))) : w.heap.size ≤ gb129)); clear HB; have HB := n0_; have BK129 := n1_; have GW129 := n2_; have GE129 := n3_; clear n0_ n1_ n2_ n3_; clear hb hbox hg; have hcz15_0 : w14.cell? ⟨gb129, 0, none⟩ = some (.string (⟨#[]⟩ : ByteArray)) := (bC BK129.out 0).trans rfl; have hcz15_1 : w14.cell? ⟨gb129, 1, none⟩ = some (.string (⟨#[]⟩ : ByteArray)) := (bC BK129.out 1).trans rfl; have hcz15_2 : w14.cell? ⟨gb129, 2, none⟩ = some (.int .i64 0) := (bC BK129.out 2).trans rfl; have hcz15_3 : w14.cell? ⟨gb129, 3, none⟩ = some (.int .i64 0) := (bC BK129.out 3).trans rfl; have hfz15_0 := bF BK129.out 0; have hfz15_1 := bF BK129.out 1; have hfz15_2 := bF BK129.out 2; have hfz15_3 := bF BK129.out 3; have p130 : 0 ≤ ((ji8) : Int) := of_decide_eq_true (by first | (with_reducible assumption) | assumption); have q130 : (ji8) < (l0.length : Int) := of_decide_eq_true (by first | (with_reducible assumption) | assumption); obtain ⟨ad130, e130, hx130_0, hx130_1, hx130_2, hx130_3⟩ := at_T166 HR0.out (ji8) p130 q130; obtain rfl : ad128 = ad130 := (by injection e130); have hn130_0 : ad128.block ≠ gb129 := Nat.ne_of_lt (Nat.lt_of_lt_of_le (by have := World.block_lt_of_cell? _ _ hx130_0; first | rwa [add_block] at this | exact this) GW129.out); have hn130_1 : ad128.block ≠ gb129 := Nat.ne_of_lt (Nat.lt_of_lt_of_le (by have := World.block_lt_of_cell? _ _ hx130_0; first | rwa [add_block] at this | exact this) GW129.out); have hn130_2 : ad128.block ≠ gb129 := Nat.ne_of_lt (Nat.lt_of_lt_of_le (by have := World.block_lt_of_cell? _ _ hx130_0; first | rwa [add_block] at this | exact this) GW129.out); have hn130_3 : ad128.block ≠ gb129 := Nat.ne_of_lt (Nat.lt_of_lt_of_le (by have := World.block_lt_of_cell? _ _ hx130_0; first | rwa [add_block] at this | exact this) GW129.out); replace hx130_0 := (HB.out.cell (World.block_lt_of_cell? w _ hx130_0)).trans hx130_0; replace hx130_1 := (HB.out.cell (World.block_lt_of_cell? w _ hx130_1)).trans hx130_1; replace hx130_2 := (HB.out.cell (World.block_lt_of_cell? w _ hx130_2)).trans hx130_2; replace hx130_3 := (HB.out.cell (World.block_lt_of_cell? w _ hx130_3)).trans hx130_3; replace hx130_0 := (cell_far (p := ⟨gb129, 0, none⟩) (by first | (rw [add_block]; exact hn130_0) | (show (Addr.add _ _).block ≠ _; rw [add_block]; exact hn130_0) | exact hn130_0) (.string ((rd_T166 l0 x8_1).f0))).trans hx130_0; replace hx130_1 := (cell_far (p := ⟨gb129, 0, none⟩) (by first | (rw [add_block]; exact hn130_0) | (show (Addr.add _ _).block ≠ _; rw [add_block]; exact hn130_0) | exact hn130_0) (.string ((rd_T166 l0 x8_1).f0))).trans hx130_1; replace hx130_2 := (cell_far (p := ⟨gb129, 0, none⟩) (by first | (rw [add_block]; exact hn130_0) | (show (Addr.add _ _).block ≠ _; rw [add_block]; exact hn130_0) | exact hn130_0) (.string ((rd_T166 l0 x8_1).f0))).trans hx130_2; replace hx130_3 := (cell_far (p := ⟨gb129, 0, none⟩) (by first | (rw [add_block]; exact hn130_0) | (show (Addr.add _ _).block ≠ _; rw [add_block]; exact hn130_0) | exact hn130_0) (.string ((rd_T166 l0 x8_1).f0))).trans hx130_3; replace hx130_0 := (cell_far (p := ⟨gb129, 1, none⟩) (by first | (rw [add_block]; exact hn130_1) | (show (Addr.add _ _).block ≠ _; rw [add_block]; exact hn130_1) | exact hn130_1) (.string ((rd_T166 l0 x8_1).f1.f0))).trans hx130_0; replace hx130_1 := (cell_far (p := ⟨gb129, 1, none⟩) (by first | (rw [add_block]; exact hn130_1) | (show (Addr.add _ _).block ≠ _; rw [add_block]; exact hn130_1) | exact hn130_1) (.string ((rd_T166 l0 x8_1).f1.f0))).trans hx130_1; replace hx130_2 := (cell_far (p := ⟨gb129, 1, none⟩) (by first | (rw [add_block]; exact hn130_1) | (show (Addr.add _ _).block ≠ _; rw [add_block]; exact hn130_1) | exact hn130_1) (.string ((rd_T166 l0 x8_1).f1.f0))).trans hx130_2; replace hx130_3 := (cell_far (p := ⟨gb129, 1, none⟩) (by first | (rw [add_block]; exact hn130_1) | (show (Addr.add _ _).block ≠ _; rw [add_block]; exact hn130_1) | exact hn130_1) (.string ((rd_T166 l0 x8_1).f1.f0))).trans hx130_3; replace hx130_0 := (cell_far (p := ⟨gb129, 2, none⟩) (by first | (rw [add_block]; exact hn130_2) | (show (Addr.add _ _).block ≠ _; rw [add_block]; exact hn130_2) | exact hn130_2) (.int .i64 ((rd_T166 l0 x8_1).f1.f1))).trans hx130_0; replace hx130_1 := (cell_far (p := ⟨gb129, 2, none⟩) (by first | (rw [add_block]; exact hn130_2) | (show (Addr.add _ _).block ≠ _; rw [add_block]; exact hn130_2) | exact hn130_2) (.int .i64 ((rd_T166 l0 x8_1).f1.f1))).trans hx130_1; replace hx130_2 := (cell_far (p := ⟨gb129, 2, none⟩) (by first | (rw [add_block]; exact hn130_2) | (show (Addr.add _ _).block ≠ _; rw [add_block]; exact hn130_2) | exact hn130_2) (.int .i64 ((rd_T166 l0 x8_1).f1.f1))).trans hx130_2; replace hx130_3 := (cell_far (p := ⟨gb129, 2, none⟩) (by first | (rw [add_block]; exact hn130_2) | (show (Addr.add _ _).block ≠ _; rw [add_block]; exact hn130_2) | exact hn130_2) (.int .i64 ((rd_T166 l0 x8_1).f1.f1))).trans hx130_3; replace hx130_0 := (cell_far (p := ⟨gb129, 3, none⟩) (by first | (rw [add_block]; exact hn130_3) | (show (Addr.add _ _).block ≠ _; rw [add_block]; exact hn130_3) | exact hn130_3) (.int .i64 ((rd_T166 l0 x8_1).f2))).trans hx130_0; replace hx130_1 := (cell_far (p := ⟨gb129, 3, none⟩) (by first | (rw [add_block]; exact hn130_3) | (show (Addr.add _ _).block ≠ _; rw [add_block]; exact hn130_3) | exact hn130_3) (.int .i64 ((rd_T166 l0 x8_1).f2))).trans hx130_1; replace hx130_2 := (cell_far (p := ⟨gb129, 3, none⟩) (by first | (rw [add_block]; exact hn130_3) | (show (Addr.add _ _).block ≠ _; rw [add_block]; exact hn130_3) | exact hn130_3) (.int .i64 ((rd_T166 l0 x8_1).f2))).trans hx130_2; replace hx130_3 := (cell_far (p := ⟨gb129, 3, none⟩) (by first | (rw [add_block]; exact hn130_3) | (show (Addr.add _ _).block ≠ _; rw [add_block]; exact hn130_3) | exact hn130_3) (.int .i64 ((rd_T166 l0 x8_1).f2))).trans hx130_3; (try have hy130_0 := fun (n_ : Nat) => (show ((((((w14.drewN n_).setCell ⟨gb129, 0, none⟩ (.string ((rd_T166 l0 x8_1).f0))).setCell ⟨gb129, 1, none⟩ (.string ((rd_T166 l0 x8_1).f1.f0))).setCell ⟨gb129, 2, none⟩ (.int .i64 ((rd_T166 l0 x8_1).f1.f1))).setCell ⟨gb129, 3, none⟩ (.int .i64 ((rd_T166 l0 x8_1).f2)))).cell? _ = some _ from hx130_0)); (try have hy130_1 := fun (n_ : Nat) => (show ((((((w14.drewN n_).setCell ⟨gb129, 0, none⟩ (.string ((rd_T166 l0 x8_1).f0))).setCell ⟨gb129, 1, none⟩ (.string ((rd_T166 l0 x8_1).f1.f0))).setCell ⟨gb129, 2, none⟩ (.int .i64 ((rd_T166 l0 x8_1).f1.f1))).setCell ⟨gb129, 3, none⟩ (.int .i64 ((rd_T166 l0 x8_1).f2)))).cell? _ = some _ from hx130_1)); (try have hy130_2 := fun (n_ : Nat) => (show ((((((w14.drewN n_).setCell ⟨gb129, 0, none⟩ (.string ((rd_T166 l0 x8_1).f0))).setCell ⟨gb129, 1, none⟩ (.string ((rd_T166 l0 x8_1).f1.f0))).setCell ⟨gb129, 2, none⟩ (.int .i64 ((rd_T166 l0 x8_1).f1.f1))).setCell ⟨gb129, 3, none⟩ (.int .i64 ((rd_T166 l0 x8_1).f2)))).cell? _ = some _ from hx130_2)); (try have hy130_3 := fun (n_ : Nat) => (show ((((((w14.drewN n_).setCell ⟨gb129, 0, none⟩ (.string ((rd_T166 l0 x8_1).f0))).setCell ⟨gb129, 1, none⟩ (.string ((rd_T166 l0 x8_1).f1.f0))).setCell ⟨gb129, 2, none⟩ (.int .i64 ((rd_T166 l0 x8_1).f1.f1))).setCell ⟨gb129, 3, none⟩ (.int .i64 ((rd_T166 l0 x8_1).f2)))).cell? _ = some _ from hx130_3)); clear hn130_0; clear hn130_1; clear hn130_2; clear hn130_3; replace p130 := eq_true p130; replace q130 := eq_true q130))
          repeat (go_quiet (first | ((with_reducible refine gate_dst (N := 5) rfl ?_); refine box_event ?hg (N := 5) ?hd (cs := #[.string (⟨#[]⟩ : ByteArray), .string (⟨#[]⟩ : ByteArray), .int .i64 0, .int .i64 0]) (t := 166) ?hr ?_; (case hd => rfl); (case hg => rfl); (case hr => first | (go_simp; done) | (go_simp; rfl)); intro gb129 hg w14 hbox hb; have n0_ := mkA (zbS (by repeat (first | (with_reducible first | exact HB.out | apply lA | apply lN | apply lD) | exact HB.out)) hb); have n1_ := mkA (hbox); have n2_ := mkA ((by rw [hg]; exact (below_size (by repeat (first | (with_reducible first | exact HB.out | apply lA | apply lN | apply lD) | exact HB.out))) : w.heap.size ≤ gb129)); have n3_ := mkA ((by rw [hg]; exact (below_size (by repeat (first | (with_reducible first | exact HB.out | apply lA | apply lN | apply lD) | exact HB.out))) : w.heap.size ≤ gb129)); clear HB; have HB := n0_; have BK129 := n1_; have GW129 := n2_; have GE129 := n3_; clear n0_ n1_ n2_ n3_; clear hb hbox hg; have hcz15_0 : w14.cell? ⟨gb129, 0, none⟩ = some (.string (⟨#[]⟩ : ByteArray)) := (bC BK129.out 0).trans rfl; have hcz15_1 : w14.cell? ⟨gb129, 1, none⟩ = some (.string (⟨#[]⟩ : ByteArray)) := (bC BK129.out 1).trans rfl; have hcz15_2 : w14.cell? ⟨gb129, 2, none⟩ = some (.int .i64 0) := (bC BK129.out 2).trans rfl; have hcz15_3 : w14.cell? ⟨gb129, 3, none⟩ = some (.int .i64 0) := (bC BK129.out 3).trans rfl; have hfz15_0 := bF BK129.out 0; have hfz15_1 := bF BK129.out 1; have hfz15_2 := bF BK129.out 2; have hfz15_3 := bF BK129.out 3; have p130 : 0 ≤ ((ji8) : Int) := of_decide_eq_true (by first | (with_reducible assumption) | assumption); have q130 : (ji8) < (l0.length : Int) := of_decide_eq_true (by first | (with_reducible assumption) | assumption); obtain ⟨ad130, e130, hx130_0, hx130_1, hx130_2, hx130_3⟩ := at_T166 HR0.out (ji8) p130 q130; obtain rfl : ad128 = ad130 := (by injection e130); have hn130_0 : ad128.block ≠ gb129 := Nat.ne_of_lt (Nat.lt_of_lt_of_le (by have := World.block_lt_of_cell? _ _ hx130_0; first | rwa [add_block] at this | exact this) GW129.out); have hn130_1 : ad128.block ≠ gb129 := Nat.ne_of_lt (Nat.lt_of_lt_of_le (by have := World.block_lt_of_cell? _ _ hx130_0; first | rwa [add_block] at this | exact this) GW129.out); have hn130_2 : ad128.block ≠ gb129 := Nat.ne_of_lt (Nat.lt_of_lt_of_le (by have := World.block_lt_of_cell? _ _ hx130_0; first | rwa [add_block] at this | exact this) GW129.out); have hn130_3 : ad128.block ≠ gb129 := Nat.ne_of_lt (Nat.lt_of_lt_of_le (by have := World.block_lt_of_cell? _ _ hx130_0; first | rwa [add_block] at this | exact this) GW129.out); replace hx130_0 := (HB.out.cell (World.block_lt_of_cell? w _ hx130_0)).trans hx130_0; replace hx130_1 := (HB.out.cell (World.block_lt_of_cell? w _ hx130_1)).trans hx130_1; replace hx130_2 := (HB.out.cell (World.block_lt_of_cell? w _ hx130_2)).trans hx130_2; replace hx130_3 := (HB.out.cell (World.block_lt_of_cell? w _ hx130_3)).trans hx130_3; replace hx130_0 := (cell_far (p := ⟨gb129, 0, none⟩) (by first | (rw [add_block]; exact hn130_0) | (show (Addr.add _ _).block ≠ _; rw [add_block]; exact hn130_0) | exact hn130_0) (.string ((rd_T166 l0 x8_1).f0))).trans hx130_0; replace hx130_1 := (cell_far (p := ⟨gb129, 0, none⟩) (by first | (rw [add_block]; exact hn130_0) | (show (Addr.add _ _).block ≠ _; rw [add_block]; exact hn130_0) | exact hn130_0) (.string ((rd_T166 l0 x8_1).f0))).trans hx130_1; replace hx130_2 := (cell_far (p := ⟨gb129, 0, none⟩) (by first | (rw [add_block]; exact hn130_0) | (show (Addr.add _ _).block ≠ _; rw [add_block]; exact hn130_0) | exact hn130_0) (.string ((rd_T166 l0 x8_1).f0))).trans hx130_2; replace hx130_3 := (cell_far (p := ⟨gb129, 0, none⟩) (by first | (rw [add_block]; exact hn130_0) | (show (Addr.add _ _).block ≠ _; rw [add_block]; exact hn130_0) | exact hn130_0) (.string ((rd_T166 l0 x8_1).f0))).trans hx130_3; replace hx130_0 := (cell_far (p := ⟨gb129, 1, none⟩) (by first | (rw [add_block]; exact hn130_1) | (show (Addr.add _ _).block ≠ _; rw [add_block]; exact hn130_1) | exact hn130_1) (.string ((rd_T166 l0 x8_1).f1.f0))).trans hx130_0; replace hx130_1 := (cell_far (p := ⟨gb129, 1, none⟩) (by first | (rw [add_block]; exact hn130_1) | (show (Addr.add _ _).block ≠ _; rw [add_block]; exact hn130_1) | exact hn130_1) (.string ((rd_T166 l0 x8_1).f1.f0))).trans hx130_1; replace hx130_2 := (cell_far (p := ⟨gb129, 1, none⟩) (by first | (rw [add_block]; exact hn130_1) | (show (Addr.add _ _).block ≠ _; rw [add_block]; exact hn130_1) | exact hn130_1) (.string ((rd_T166 l0 x8_1).f1.f0))).trans hx130_2; replace hx130_3 := (cell_far (p := ⟨gb129, 1, none⟩) (by first | (rw [add_block]; exact hn130_1) | (show (Addr.add _ _).block ≠ _; rw [add_block]; exact hn130_1) | exact hn130_1) (.string ((rd_T166 l0 x8_1).f1.f0))).trans hx130_3; replace hx130_0 := (cell_far (p := ⟨gb129, 2, none⟩) (by first | (rw [add_block]; exact hn130_2) | (show (Addr.add _ _).block ≠ _; rw [add_block]; exact hn130_2) | exact hn130_2) (.int .i64 ((rd_T166 l0 x8_1).f1.f1))).trans hx130_0; replace hx130_1 := (cell_far (p := ⟨gb129, 2, none⟩) (by first | (rw [add_block]; exact hn130_2) | (show (Addr.add _ _).block ≠ _; rw [add_block]; exact hn130_2) | exact hn130_2) (.int .i64 ((rd_T166 l0 x8_1).f1.f1))).trans hx130_1; replace hx130_2 := (cell_far (p := ⟨gb129, 2, none⟩) (by first | (rw [add_block]; exact hn130_2) | (show (Addr.add _ _).block ≠ _; rw [add_block]; exact hn130_2) | exact hn130_2) (.int .i64 ((rd_T166 l0 x8_1).f1.f1))).trans hx130_2; replace hx130_3 := (cell_far (p := ⟨gb129, 2, none⟩) (by first | (rw [add_block]; exact hn130_2) | (show (Addr.add _ _).block ≠ _; rw [add_block]; exact hn130_2) | exact hn130_2) (.int .i64 ((rd_T166 l0 x8_1).f1.f1))).trans hx130_3; replace hx130_0 := (cell_far (p := ⟨gb129, 3, none⟩) (by first | (rw [add_block]; exact hn130_3) | (show (Addr.add _ _).block ≠ _; rw [add_block]; exact hn130_3) | exact hn130_3) (.int .i64 ((rd_T166 l0 x8_1).f2))).trans hx130_0; replace hx130_1 := (cell_far (p := ⟨gb129, 3, none⟩) (by first | (rw [add_block]; exact hn130_3) | (show (Addr.add _ _).block ≠ _; rw [add_block]; exact hn130_3) | exact hn130_3) (.int .i64 ((rd_T166 l0 x8_1).f2))).trans hx130_1; replace hx130_2 := (cell_far (p := ⟨gb129, 3, none⟩) (by first | (rw [add_block]; exact hn130_3) | (show (Addr.add _ _).block ≠ _; rw [add_block]; exact hn130_3) | exact hn130_3) (.int .i64 ((rd_T166 l0 x8_1).f2))).trans hx130_2; replace hx130_3 := (cell_far (p := ⟨gb129, 3, none⟩) (by first | (rw [add_block]; exact hn130_3) | (show (Addr.add _ _).block ≠ _; rw [add_block]; exact hn130_3) | exact hn130_3) (.int .i64 ((rd_T166 l0 x8_1).f2))).trans hx130_3; (try have hy130_0 := fun (n_ : Nat) => (show ((((((w14.drewN n_).setCell ⟨gb129, 0, none⟩ (.string ((rd_T166 l0 x8_1).f0))).setCell ⟨gb129, 1, none⟩ (.string ((rd_T166 l0 x8_1).f1.f0))).setCell ⟨gb129, 2, none⟩ (.int .i64 ((rd_T166 l0 x8_1).f1.f1))).setCell ⟨gb129, 3, none⟩ (.int .i64 ((rd_T166 l0 x8_1).f2)))).cell? _ = some _ from hx130_0)); (try have hy130_1 := fun (n_ : Nat) => (show ((((((w14.drewN n_).setCell ⟨gb129, 0, none⟩ (.string ((rd_T166 l0 x8_1).f0))).setCell ⟨gb129, 1, none⟩ (.string ((rd_T166 l0 x8_1).f1.f0))).setCell ⟨gb129, 2, none⟩ (.int .i64 ((rd_T166 l0 x8_1).f1.f1))).setCell ⟨gb129, 3, none⟩ (.int .i64 ((rd_T166 l0 x8_1).f2)))).cell? _ = some _ from hx130_1)); (try have hy130_2 := fun (n_ : Nat) => (show ((((((w14.drewN n_).setCell ⟨gb129, 0, none⟩ (.string ((rd_T166 l0 x8_1).f0))).setCell ⟨gb129, 1, none⟩ (.string ((rd_T166 l0 x8_1).f1.f0))).setCell ⟨gb129, 2, none⟩ (.int .i64 ((rd_T166 l0 x8_1).f1.f1))).setCell ⟨gb129, 3, none⟩ (.int .i64 ((rd_T166 l0 x8_1).f2)))).cell? _ = some _ from hx130_2)); (try have hy130_3 := fun (n_ : Nat) => (show ((((((w14.drewN n_).setCell ⟨gb129, 0, none⟩ (.string ((rd_T166 l0 x8_1).f0))).setCell ⟨gb129, 1, none⟩ (.string ((rd_T166 l0 x8_1).f1.f0))).setCell ⟨gb129, 2, none⟩ (.int .i64 ((rd_T166 l0 x8_1).f1.f1))).setCell ⟨gb129, 3, none⟩ (.int .i64 ((rd_T166 l0 x8_1).f2)))).cell? _ = some _ from hx130_3)); clear hn130_0; clear hn130_1; clear hn130_2; clear hn130_3; replace p130 := eq_true p130; replace q130 := eq_true q130)); try go_wp2_with (first | ((with_reducible refine gate_dst (N := 5) rfl ?_); refine box_event ?hg (N := 5) ?hd (cs := #[.string (⟨#[]⟩ : ByteArray), .string (⟨#[]⟩ : ByteArray), .int .i64 0, .int .i64 0]) (t := 166) ?hr ?_; (case hd => rfl); (case hg => rfl); (case hr => first | (go_simp; done) | (go_simp; rfl)); intro gb129 hg w14 hbox hb; have n0_ := mkA (zbS (by repeat (first | (with_reducible first | exact HB.out | apply lA | apply lN | apply lD) | exact HB.out)) hb); have n1_ := mkA (hbox); have n2_ := mkA ((by rw [hg]; exact (below_size (by repeat (first | (with_reducible first | exact HB.out | apply lA | apply lN | apply lD) | exact HB.out))) : w.heap.size ≤ gb129)); have n3_ := mkA ((by rw [hg]; exact (below_size (by repeat (first | (with_reducible first | exact HB.out | apply lA | apply lN | apply lD) | exact HB.out))) : w.heap.size ≤ gb129)); clear HB; have HB := n0_; have BK129 := n1_; have GW129 := n2_; have GE129 := n3_; clear n0_ n1_ n2_ n3_; clear hb hbox hg; have hcz15_0 : w14.cell? ⟨gb129, 0, none⟩ = some (.string (⟨#[]⟩ : ByteArray)) := (bC BK129.out 0).trans rfl; have hcz15_1 : w14.cell? ⟨gb129, 1, none⟩ = some (.string (⟨#[]⟩ : ByteArray)) := (bC BK129.out 1).trans rfl; have hcz15_2 : w14.cell? ⟨gb129, 2, none⟩ = some (.int .i64 0) := (bC BK129.out 2).trans rfl; have hcz15_3 : w14.cell? ⟨gb129, 3, none⟩ = some (.int .i64 0) := (bC BK129.out 3).trans rfl; have hfz15_0 := bF BK129.out 0; have hfz15_1 := bF BK129.out 1; have hfz15_2 := bF BK129.out 2; have hfz15_3 := bF BK129.out 3; have p130 : 0 ≤ ((ji8) : Int) := of_decide_eq_true (by first | (with_reducible assumption) | assumption); have q130 : (ji8) < (l0.length : Int) := of_decide_eq_true (by first | (with_reducible assumption) | assumption); obtain ⟨ad130, e130, hx130_0, hx130_1, hx130_2, hx130_3⟩ := at_T166 HR0.out (ji8) p130 q130; obtain rfl : ad128 = ad130 := (by injection e130); have hn130_0 : ad128.block ≠ gb129 := Nat.ne_of_lt (Nat.lt_of_lt_of_le (by have := World.block_lt_of_cell? _ _ hx130_0; first | rwa [add_block] at this | exact this) GW129.out); have hn130_1 : ad128.block ≠ gb129 := Nat.ne_of_lt (Nat.lt_of_lt_of_le (by have := World.block_lt_of_cell? _ _ hx130_0; first | rwa [add_block] at this | exact this) GW129.out); have hn130_2 : ad128.block ≠ gb129 := Nat.ne_of_lt (Nat.lt_of_lt_of_le (by have := World.block_lt_of_cell? _ _ hx130_0; first | rwa [add_block] at this | exact this) GW129.out); have hn130_3 : ad128.block ≠ gb129 := Nat.ne_of_lt (Nat.lt_of_lt_of_le (by have := World.block_lt_of_cell? _ _ hx130_0; first | rwa [add_block] at this | exact this) GW129.out); replace hx130_0 := (HB.out.cell (World.block_lt_of_cell? w _ hx130_0)).trans hx130_0; replace hx130_1 := (HB.out.cell (World.block_lt_of_cell? w _ hx130_1)).trans hx130_1; replace hx130_2 := (HB.out.cell (World.block_lt_of_cell? w _ hx130_2)).trans hx130_2; replace hx130_3 := (HB.out.cell (World.block_lt_of_cell? w _ hx130_3)).trans hx130_3; replace hx130_0 := (cell_far (p := ⟨gb129, 0, none⟩) (by first | (rw [add_block]; exact hn130_0) | (show (Addr.add _ _).block ≠ _; rw [add_block]; exact hn130_0) | exact hn130_0) (.string ((rd_T166 l0 x8_1).f0))).trans hx130_0; replace hx130_1 := (cell_far (p := ⟨gb129, 0, none⟩) (by first | (rw [add_block]; exact hn130_0) | (show (Addr.add _ _).block ≠ _; rw [add_block]; exact hn130_0) | exact hn130_0) (.string ((rd_T166 l0 x8_1).f0))).trans hx130_1; replace hx130_2 := (cell_far (p := ⟨gb129, 0, none⟩) (by first | (rw [add_block]; exact hn130_0) | (show (Addr.add _ _).block ≠ _; rw [add_block]; exact hn130_0) | exact hn130_0) (.string ((rd_T166 l0 x8_1).f0))).trans hx130_2; replace hx130_3 := (cell_far (p := ⟨gb129, 0, none⟩) (by first | (rw [add_block]; exact hn130_0) | (show (Addr.add _ _).block ≠ _; rw [add_block]; exact hn130_0) | exact hn130_0) (.string ((rd_T166 l0 x8_1).f0))).trans hx130_3; replace hx130_0 := (cell_far (p := ⟨gb129, 1, none⟩) (by first | (rw [add_block]; exact hn130_1) | (show (Addr.add _ _).block ≠ _; rw [add_block]; exact hn130_1) | exact hn130_1) (.string ((rd_T166 l0 x8_1).f1.f0))).trans hx130_0; replace hx130_1 := (cell_far (p := ⟨gb129, 1, none⟩) (by first | (rw [add_block]; exact hn130_1) | (show (Addr.add _ _).block ≠ _; rw [add_block]; exact hn130_1) | exact hn130_1) (.string ((rd_T166 l0 x8_1).f1.f0))).trans hx130_1; replace hx130_2 := (cell_far (p := ⟨gb129, 1, none⟩) (by first | (rw [add_block]; exact hn130_1) | (show (Addr.add _ _).block ≠ _; rw [add_block]; exact hn130_1) | exact hn130_1) (.string ((rd_T166 l0 x8_1).f1.f0))).trans hx130_2; replace hx130_3 := (cell_far (p := ⟨gb129, 1, none⟩) (by first | (rw [add_block]; exact hn130_1) | (show (Addr.add _ _).block ≠ _; rw [add_block]; exact hn130_1) | exact hn130_1) (.string ((rd_T166 l0 x8_1).f1.f0))).trans hx130_3; replace hx130_0 := (cell_far (p := ⟨gb129, 2, none⟩) (by first | (rw [add_block]; exact hn130_2) | (show (Addr.add _ _).block ≠ _; rw [add_block]; exact hn130_2) | exact hn130_2) (.int .i64 ((rd_T166 l0 x8_1).f1.f1))).trans hx130_0; replace hx130_1 := (cell_far (p := ⟨gb129, 2, none⟩) (by first | (rw [add_block]; exact hn130_2) | (show (Addr.add _ _).block ≠ _; rw [add_block]; exact hn130_2) | exact hn130_2) (.int .i64 ((rd_T166 l0 x8_1).f1.f1))).trans hx130_1; replace hx130_2 := (cell_far (p := ⟨gb129, 2, none⟩) (by first | (rw [add_block]; exact hn130_2) | (show (Addr.add _ _).block ≠ _; rw [add_block]; exact hn130_2) | exact hn130_2) (.int .i64 ((rd_T166 l0 x8_1).f1.f1))).trans hx130_2; replace hx130_3 := (cell_far (p := ⟨gb129, 2, none⟩) (by first | (rw [add_block]; exact hn130_2) | (show (Addr.add _ _).block ≠ _; rw [add_block]; exact hn130_2) | exact hn130_2) (.int .i64 ((rd_T166 l0 x8_1).f1.f1))).trans hx130_3; replace hx130_0 := (cell_far (p := ⟨gb129, 3, none⟩) (by first | (rw [add_block]; exact hn130_3) | (show (Addr.add _ _).block ≠ _; rw [add_block]; exact hn130_3) | exact hn130_3) (.int .i64 ((rd_T166 l0 x8_1).f2))).trans hx130_0; replace hx130_1 := (cell_far (p := ⟨gb129, 3, none⟩) (by first | (rw [add_block]; exact hn130_3) | (show (Addr.add _ _).block ≠ _; rw [add_block]; exact hn130_3) | exact hn130_3) (.int .i64 ((rd_T166 l0 x8_1).f2))).trans hx130_1; replace hx130_2 := (cell_far (p := ⟨gb129, 3, none⟩) (by first | (rw [add_block]; exact hn130_3) | (show (Addr.add _ _).block ≠ _; rw [add_block]; exact hn130_3) | exact hn130_3) (.int .i64 ((rd_T166 l0 x8_1).f2))).trans hx130_2; replace hx130_3 := (cell_far (p := ⟨gb129, 3, none⟩) (by first | (rw [add_block]; exact hn130_3) | (show (Addr.add _ _).block ≠ _; rw [add_block]; exact hn130_3) | exact hn130_3) (.int .i64 ((rd_T166 l0 x8_1).f2))).trans hx130_3; (try have hy130_0 := fun (n_ : Nat) => (show ((((((w14.drewN n_).setCell ⟨gb129, 0, none⟩ (.string ((rd_T166 l0 x8_1).f0))).setCell ⟨gb129, 1, none⟩ (.string ((rd_T166 l0 x8_1).f1.f0))).setCell ⟨gb129, 2, none⟩ (.int .i64 ((rd_T166 l0 x8_1).f1.f1))).setCell ⟨gb129, 3, none⟩ (.int .i64 ((rd_T166 l0 x8_1).f2)))).cell? _ = some _ from hx130_0)); (try have hy130_1 := fun (n_ : Nat) => (show ((((((w14.drewN n_).setCell ⟨gb129, 0, none⟩ (.string ((rd_T166 l0 x8_1).f0))).setCell ⟨gb129, 1, none⟩ (.string ((rd_T166 l0 x8_1).f1.f0))).setCell ⟨gb129, 2, none⟩ (.int .i64 ((rd_T166 l0 x8_1).f1.f1))).setCell ⟨gb129, 3, none⟩ (.int .i64 ((rd_T166 l0 x8_1).f2)))).cell? _ = some _ from hx130_1)); (try have hy130_2 := fun (n_ : Nat) => (show ((((((w14.drewN n_).setCell ⟨gb129, 0, none⟩ (.string ((rd_T166 l0 x8_1).f0))).setCell ⟨gb129, 1, none⟩ (.string ((rd_T166 l0 x8_1).f1.f0))).setCell ⟨gb129, 2, none⟩ (.int .i64 ((rd_T166 l0 x8_1).f1.f1))).setCell ⟨gb129, 3, none⟩ (.int .i64 ((rd_T166 l0 x8_1).f2)))).cell? _ = some _ from hx130_2)); (try have hy130_3 := fun (n_ : Nat) => (show ((((((w14.drewN n_).setCell ⟨gb129, 0, none⟩ (.string ((rd_T166 l0 x8_1).f0))).setCell ⟨gb129, 1, none⟩ (.string ((rd_T166 l0 x8_1).f1.f0))).setCell ⟨gb129, 2, none⟩ (.int .i64 ((rd_T166 l0 x8_1).f1.f1))).setCell ⟨gb129, 3, none⟩ (.int .i64 ((rd_T166 l0 x8_1).f2)))).cell? _ = some _ from hx130_3)); clear hn130_0; clear hn130_1; clear hn130_2; clear hn130_3; replace p130 := eq_true p130; replace q130 := eq_true q130)))
          go_roundg k1
          case measure => have := HK1.out; omega
          case rel => exact ⟨(wrap64 (x3_1 + 1)), (wrap64 (x8_1 + 1)), (by first | rfl | (simp; done) | (simp [*]; done)), (by first | rfl | (simp; done) | (simp [*]; done)), H', ⟨by have := HK1.out; omega⟩, ⟨by repeat (first | (with_reducible first | exact HB.out | apply lA | apply lN | apply lD | refine lS ?_ GE129.out) | exact HB.out)⟩⟩
        ·rw [if_neg c10] at H
         exact absurd H (by simp)
       ·rw [if_neg c9] at H
        exact absurd H (by simp)
     ·rw [if_neg c4] at H
      exact absurd H (by simp)
    ·rw [if_neg c3] at H
     exact absurd H (by simp)
   ·rw [if_neg c2] at H
    have c2b0 : decide (x8_1 < (l0.length : Int)) = false := decide_eq_false c2
    clear c2
    obtain rfl := Option.some.inj H
    go_wp2
    repeat (go_quiet (fail); try go_wp2)
    go_ret
    exact ⟨by first | rfl | (simp [errW_none, errW_some] <;> rfl) | (simp [*, errW_none, errW_some] <;> rfl), by repeat (first | (with_reducible first | exact HB.out | apply lA | apply lN | apply lD) | exact HB.out)⟩
end Go.Proofs.Ytohhlkabejangaa.POf
