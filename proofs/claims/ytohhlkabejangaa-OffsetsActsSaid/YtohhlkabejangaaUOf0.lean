import Derived.Test.YtohhlkabejangaaUPOfx4
import Derived.Sort.Walk0
import Derived.Sort.Grow
import Derived.Shelf.SlIter.Collect
-- halved
namespace Go.Proofs.Ytohhlkabejangaa.Of
set_option linter.unusedVariables false
set_option linter.unusedSimpArgs false
open Go.RowKit Go.Maps Go.Sort Go.Lib Go.Shelf Go.Proofs.YtohhlkabejangaaW.PrintWords Go.Proofs.YtohhlkabejangaaW.PrintLast Go.Proofs.YtohhlkabejangaaW.PrintMore Go.Proofs.Ytohhlkabejangaa.POf
open Go.Proofs.YtohhlkabejangaaW.PrintWords.Aside0 renaming mk → mkA
open List renaming setIfInBounds_toArray → zsI, set_cons_zero → zs0, set_cons_succ → zs1
structure Ky where
 g : ByteArray
 t : ByteArray
 p : Int
 deriving Inhabited, DecidableEq
def encK (x : Ky) : List Value := [.string x.g, .string x.t, .int .i64 x.p]
def cS (a b : ByteArray) : Int := if a.toList < b.toList then -1 else if b.toList < a.toList then 1 else 0
def cI (a b : Int) : Int := if a < b then -1 else if a > b then 1 else 0
def cO (a b c : Int) : Int := if a = 0 then (if b = 0 then (if c = 0 then 0 else c) else b) else a
def cK (x y : Ky) : Int := cO (cS x.g y.g) (cS x.t y.t) (cI x.p y.p)
def Gr (w w' : World) : Prop := ∃ q os, w' = grow (w.drewN q) os
theorem gr_refl (w : World) : Gr w w := ⟨0, #[], by rw [grow_empty]; rfl⟩
theorem gr_trans {w w1 w2 : World} (h : Gr w w1) (h2 : Gr w1 w2) : Gr w w2 := by
 obtain ⟨q, os, rfl⟩ := h
 obtain ⟨q2, os2, rfl⟩ := h2
 refine ⟨q + q2, os ++ os2, ?_⟩
 show grow (grow ((w.drewN q).drewN q2) os) os2 = _
 rw [grow_grow, World.drewN_drewN]
theorem gr_drewN {w w1 : World} (h : Gr w w1) (n : Nat) : Gr w (w1.drewN n) := gr_trans h ⟨n, #[], by rw [grow_empty]⟩
theorem gr_drew {w w1 : World} (h : Gr w w1) : Gr w w1.drew := gr_drewN h 1
theorem gr_alloc {w w1 : World} (h : Gr w w1) (o : Obj) : Gr w (w1.alloc o) := gr_trans h ⟨0, #[o], by rw [alloc_eq_grow]; rfl⟩
theorem gtr_eq (x v : List UInt8) : (Op.bytesLess x v || x == v) = !decide (v < x) := by
 rw [bytesLess_eq]
 by_cases h : v < x
 ·have h1 : ¬ x < v := List.not_lt.2 (List.le_of_lt h)
  have h2 : x ≠ v := fun e => List.lt_irrefl v (e ▸ h)
  simp [h, h1, h2]
 ·have h1 : x ≤ v := List.not_lt.1 h
  by_cases h2 : x = v
  ·simp [h, h2]
  ·have h3 : x < v := by
    rcases Decidable.em (x < v) with h4 | h4
    ·exact h4
    ·exact absurd (List.le_antisymm h1 (List.not_lt.1 h4)) h2
   simp [h, h3]
theorem gtr_op (t : TypeId) (a b : ByteArray) : Go.binOp .gtr t (.string a) (.string b) = pure (.bool (decide (b.toList < a.toList))) := by
 have h : Go.binOp .gtr t (.string a) (.string b) = pure (.bool !(Op.bytesLess a.toList b.toList || a.toList == b.toList)) := by simp [Go.binOp, Op.stringOp]
 rw [h, gtr_eq, Bool.not_not]
theorem lss_op (t : TypeId) (a b : ByteArray) : Go.binOp .lss t (.string a) (.string b) = pure (.bool (decide (a.toList < b.toList))) := by
 have h : Go.binOp .lss t (.string a) (.string b) = pure (.bool (Op.bytesLess a.toList b.toList)) := by simp [Go.binOp, Op.stringOp]
 rw [h, bytesLess_eq]
section
attribute [local go_sem high] gtr_op lss_op
set_option maxHeartbeats 2000000 in
theorem cS_calls (a b : ByteArray) (w : World) : Calls Try.prog 135 #[.string a, .string b] w fun e w' => e = .returned (.int .i64 (cS a b)) ∧ Drawn0 w w' := by
 have hN := fun (x : ByteArray) (W : World) => cmp_isNaN_string.calls x false W (by simp [cmp_isNaN_string.f])
 unfold cS
 by_cases h1 : a.toList < b.toList
 ·rw [if_pos h1]
  go_enter Try.func135, Try.ntmps135
  go_wp2_with (go_at_call 153; refine (hN _ _).mono ?_; rintro e w' ⟨rfl, ⟨nd, rfl⟩⟩)
  go_ret
  exact ⟨rfl, ⟨⟨_, rfl⟩⟩⟩
 ·rw [if_neg h1]
  by_cases h2 : b.toList < a.toList
  ·rw [if_pos h2]
   go_enter Try.func135, Try.ntmps135
   go_wp2_with (go_at_call 153; refine (hN _ _).mono ?_; rintro e w' ⟨rfl, ⟨nd, rfl⟩⟩)
   go_ret
   exact ⟨rfl, ⟨⟨_, rfl⟩⟩⟩
  ·rw [if_neg h2]
   go_enter Try.func135, Try.ntmps135
   go_wp2_with (go_at_call 153; refine (hN _ _).mono ?_; rintro e w' ⟨rfl, ⟨nd, rfl⟩⟩)
   go_ret
   exact ⟨rfl, ⟨⟨_, rfl⟩⟩⟩
end
theorem cI_f (a b : Int) : cmp_Compare_int.f a b = some (cI a b) := by
 unfold cmp_Compare_int.f cI
 simp [cmp_isNaN_int.f]
 split
 ·rfl
 ·split <;> rfl
theorem cO_f (a b c : Int) : cmp_Or_int.f 4 [a, b, c] = some (cO a b c) := by
 unfold cmp_Or_int.f cO
 simp only [cmp_Or_int.l0, List.length_cons, List.length_nil]
 by_cases h1 : a = 0 <;> by_cases h2 : b = 0 <;> by_cases h3 : c = 0 <;> simp [rd, h1, h2, h3, wrap64]
theorem kdC_lit (W : World) (a b c : Int) : Kd.C (Kd.int .i64) (W.alloc (.cells #[.int .i64 a, .int .i64 b, .int .i64 c] 3)) (some ⟨W.heap.size, 0, none⟩) 3 [a, b, c] := by
 have h2 := World.ownsRow_lit (base := 0) (e := 3) (size := 1) W #[.int .i64 a, .int .i64 b, .int .i64 c] 3 (Nat.zero_le _) (by decide) (by rfl)
 have hR : (Kd.int .i64).R 3 (W.alloc (.cells #[.int .i64 a, .int .i64 b, .int .i64 c] 3)) 0 (fun _ => True) (.slice (some ⟨W.heap.size, 0, none⟩) 3 3) [a, b, c] :=
  ⟨fun _ _ => trivial, [.int .i64 a, .int .i64 b, .int .i64 c], (show World.ownsRow _ 0 3 1 _ _ _ from by simpa using h2), Reps.one (show Kd.M (Kd.int .i64) _ _ _ a [.int .i64 a] from rfl) (Reps.one (show Kd.M (Kd.int .i64) _ _ _ b [.int .i64 b] from rfl) (Reps.one (show Kd.M (Kd.int .i64) _ _ _ c [.int .i64 c] from rfl) (Reps.none _ _)))⟩
 exact (Kd.R_reads' hR).2.2
set_option maxHeartbeats 4000000 in
set_option maxRecDepth 100000 in
theorem compare_calls (x y : Ky) (w : World) : Calls Try.prog 96 #[.agg (encK x).toArray, .agg (encK y).toArray] w fun e w' => e = .returned (.int .i64 (cK x y)) ∧ Gr w w' := by
 show Calls Try.prog 96 #[.agg #[.string x.g, .string x.t, .int .i64 x.p], .agg #[.string y.g, .string y.t, .int .i64 y.p]] w _
 unfold cK
 have hu := Try.underlying74
 obtain ⟨c1, hc1⟩ : ∃ c, cS x.g y.g = c := ⟨_, rfl⟩
 obtain ⟨c2, hc2⟩ : ∃ c, cS x.t y.t = c := ⟨_, rfl⟩
 obtain ⟨c3, hc3⟩ : ∃ c, cI x.p y.p = c := ⟨_, rfl⟩
 have q1 := fun W => cS_calls x.g y.g W
 have q2 := fun W => cS_calls x.t y.t W
 have q3 := fun W => cmp_Compare_int.calls x.p y.p _ W (cI_f _ _)
 rw [hc1] at q1 ⊢
 rw [hc2] at q2 ⊢
 rw [hc3] at q3 ⊢
 clear hc1 hc2 hc3
 go_enter Try.func96, Try.ntmps96
 go_wp2
 have BA0 : ((w.alloc (.cells #[.string x.g, .string x.t, .int .i64 x.p] 74)).alloc (.cells #[.string y.g, .string y.t, .int .i64 y.p] 74)).heap[w.heap.size]? = some (.cells #[.string x.g, .string x.t, .int .i64 x.p] 74 (0, 0)) := blk_alloc (World.alloc_heap_new w _) _
 have BB0 : ((w.alloc (.cells #[.string x.g, .string x.t, .int .i64 x.p] 74)).alloc (.cells #[.string y.g, .string y.t, .int .i64 y.p] 74)).heap[w.heap.size + 1]? = some (.cells #[.string y.g, .string y.t, .int .i64 y.p] 74 (0, 0)) := by
  have h := World.alloc_heap_new (w.alloc (.cells #[.string x.g, .string x.t, .int .i64 x.p] 74)) (.cells #[.string y.g, .string y.t, .int .i64 y.p] 74)
  rwa [World.size_alloc] at h
 have HG0 : Gr w ((w.alloc (.cells #[.string x.g, .string x.t, .int .i64 x.p] 74)).alloc (.cells #[.string y.g, .string y.t, .int .i64 y.p] 74)) := gr_alloc (gr_alloc (gr_refl w) _) _
 have BA := mkA BA0
 have BB := mkA BB0
 have HG := mkA HG0
 clear BA0 BB0 HG0
 obtain ⟨gb, hgb⟩ : ∃ g, w.heap.size + 1 = g := ⟨_, rfl⟩
 rw [hgb] at BB ⊢
 obtain ⟨ga, hga⟩ : ∃ g, w.heap.size = g := ⟨_, rfl⟩
 rw [hga] at BA ⊢
 clear hga hgb
 obtain ⟨w2, hw2⟩ : ∃ w2, (w.alloc (.cells #[.string x.g, .string x.t, .int .i64 x.p] 74)).alloc (.cells #[.string y.g, .string y.t, .int .i64 y.p] 74) = w2 := ⟨_, rfl⟩
 rw [hw2] at BA BB HG ⊢
 clear hw2
 refine start_ (n := 22) (S := fun w' => w'.cell? ⟨ga, 0, none⟩ = some (.string x.g) ∧ w'.cell? ⟨ga, 1, none⟩ = some (.string x.t) ∧ w'.cell? ⟨ga, 2, none⟩ = some (.int .i64 x.p) ∧ w'.cell? ⟨gb, 0, none⟩ = some (.string y.g) ∧ w'.cell? ⟨gb, 1, none⟩ = some (.string y.t) ∧ w'.cell? ⟨gb, 2, none⟩ = some (.int .i64 y.p)) (ds := []) #[false, false, false, false, false, false, false, false, false, false, false, false, false, false, false, false, false, false, false, false, false, false] (by kernel_rfl) rfl rfl ⟨(blk_cell BA.out 0).trans rfl, (blk_cell BA.out 1).trans rfl, (blk_cell BA.out 2).trans rfl, (blk_cell BB.out 0).trans rfl, (blk_cell BB.out 1).trans rfl, (blk_cell BB.out 2).trans rfl⟩ (fun _ => ?_)
 have n_BA := mkA (blk_drew BA.out)
 have n_BB := mkA (blk_drew BB.out)
 have n_HG := mkA (gr_drew HG.out)
 clear BA BB HG
 have BA := n_BA
 have BB := n_BB
 have HG := n_HG
 clear n_BA n_BB n_HG
 generalize w2.drew = w3 at *
 refine pure_ (i := 0) (N := some 5) (v := ?_) (a' := ?_) #[true, false, false, false, false, false, false, false, false, false, false, false, false, false, false, false, false, false, false, false, false, false] rfl rfl (by kernel_rfl) (fun _ _ _ h => h) (Or.inl ⟨by rfl, ?_⟩) ?_ ?_
 rotate_left
 ·intro w'
  go_simp
  with_reducible rfl
 rotate_left
 ·simp only [Act.put, zsI, zs0, zs1]
  rfl
 refine take_ (i := 1) (N := some 6) (v := ?_) (a' := ?_) #[true, true, false, false, false, false, false, false, false, false, false, false, false, false, false, false, false, false, false, false, false, false] rfl rfl (by kernel_rfl) (fun _ _ _ h => h) (Or.inl ⟨by rfl, ?_⟩) ⟨(blk_cell BA.out 0).trans rfl, (blk_cell BA.out 1).trans rfl, (blk_cell BA.out 2).trans rfl, (blk_cell BB.out 0).trans rfl, (blk_cell BB.out 1).trans rfl, (blk_cell BB.out 2).trans rfl⟩ ?_ ?_
 rotate_left
 ·intro w' hS
  obtain ⟨s0, s1, s2, s3, s4, s5⟩ := hS
  go_simp
  with_reducible rfl
 rotate_left
 ·simp only [Act.put, zsI, zs0, zs1]
  rfl
 refine pure_ (i := 2) (N := some 7) (v := ?_) (a' := ?_) #[true, true, true, false, false, false, false, false, false, false, false, false, false, false, false, false, false, false, false, false, false, false] rfl rfl (by kernel_rfl) (fun _ _ _ h => h) (Or.inl ⟨by rfl, ?_⟩) ?_ ?_
 rotate_left
 ·intro w'
  go_simp
  with_reducible rfl
 rotate_left
 ·simp only [Act.put, zsI, zs0, zs1]
  rfl
 refine take_ (i := 3) (N := some 8) (v := ?_) (a' := ?_) #[true, true, true, true, false, false, false, false, false, false, false, false, false, false, false, false, false, false, false, false, false, false] rfl rfl (by kernel_rfl) (fun _ _ _ h => h) (Or.inl ⟨by rfl, ?_⟩) ⟨(blk_cell BA.out 0).trans rfl, (blk_cell BA.out 1).trans rfl, (blk_cell BA.out 2).trans rfl, (blk_cell BB.out 0).trans rfl, (blk_cell BB.out 1).trans rfl, (blk_cell BB.out 2).trans rfl⟩ ?_ ?_
 rotate_left
 ·intro w' hS
  obtain ⟨s0, s1, s2, s3, s4, s5⟩ := hS
  go_simp
  with_reducible rfl
 rotate_left
 ·simp only [Act.put, zsI, zs0, zs1]
  rfl
 refine pure_ (i := 5) (N := some 10) (v := ?_) (a' := ?_) #[true, true, true, true, false, true, false, false, false, false, false, false, false, false, false, false, false, false, false, false, false, false] rfl rfl (by kernel_rfl) (fun _ _ _ h => h) (Or.inl ⟨by rfl, ?_⟩) ?_ ?_
 rotate_left
 ·intro w'
  go_simp
  with_reducible rfl
 rotate_left
 ·simp only [Act.put, zsI, zs0, zs1]
  rfl
 refine pure_ (i := 6) (N := some 11) (v := ?_) (a' := ?_) #[true, true, true, true, false, true, true, false, false, false, false, false, false, false, false, false, false, false, false, false, false, false] rfl rfl (by kernel_rfl) (fun _ _ _ h => h) (Or.inl ⟨by rfl, ?_⟩) ?_ ?_
 rotate_left
 ·intro w'
  go_simp
  with_reducible rfl
 rotate_left
 ·simp only [Act.put, zsI, zs0, zs1]
  rfl
 refine take_ (i := 7) (N := some 12) (v := ?_) (a' := ?_) #[true, true, true, true, false, true, true, true, false, false, false, false, false, false, false, false, false, false, false, false, false, false] rfl rfl (by kernel_rfl) (fun _ _ _ h => h) (Or.inl ⟨by rfl, ?_⟩) ⟨(blk_cell BA.out 0).trans rfl, (blk_cell BA.out 1).trans rfl, (blk_cell BA.out 2).trans rfl, (blk_cell BB.out 0).trans rfl, (blk_cell BB.out 1).trans rfl, (blk_cell BB.out 2).trans rfl⟩ ?_ ?_
 rotate_left
 ·intro w' hS
  obtain ⟨s0, s1, s2, s3, s4, s5⟩ := hS
  go_simp
  with_reducible rfl
 rotate_left
 ·simp only [Act.put, zsI, zs0, zs1]
  rfl
 refine pure_ (i := 8) (N := some 13) (v := ?_) (a' := ?_) #[true, true, true, true, false, true, true, true, true, false, false, false, false, false, false, false, false, false, false, false, false, false] rfl rfl (by kernel_rfl) (fun _ _ _ h => h) (Or.inl ⟨by rfl, ?_⟩) ?_ ?_
 rotate_left
 ·intro w'
  go_simp
  with_reducible rfl
 rotate_left
 ·simp only [Act.put, zsI, zs0, zs1]
  rfl
 refine pure_ (i := 9) (N := some 14) (v := ?_) (a' := ?_) #[true, true, true, true, false, true, true, true, true, true, false, false, false, false, false, false, false, false, false, false, false, false] rfl rfl (by kernel_rfl) (fun _ _ _ h => h) (Or.inl ⟨by rfl, ?_⟩) ?_ ?_
 rotate_left
 ·intro w'
  go_simp
  with_reducible rfl
 rotate_left
 ·simp only [Act.put, zsI, zs0, zs1]
  rfl
 refine take_ (i := 10) (N := some 15) (v := ?_) (a' := ?_) #[true, true, true, true, false, true, true, true, true, true, true, false, false, false, false, false, false, false, false, false, false, false] rfl rfl (by kernel_rfl) (fun _ _ _ h => h) (Or.inl ⟨by rfl, ?_⟩) ⟨(blk_cell BA.out 0).trans rfl, (blk_cell BA.out 1).trans rfl, (blk_cell BA.out 2).trans rfl, (blk_cell BB.out 0).trans rfl, (blk_cell BB.out 1).trans rfl, (blk_cell BB.out 2).trans rfl⟩ ?_ ?_
 rotate_left
 ·intro w' hS
  obtain ⟨s0, s1, s2, s3, s4, s5⟩ := hS
  go_simp
  with_reducible rfl
 rotate_left
 ·simp only [Act.put, zsI, zs0, zs1]
  rfl
 refine pure_ (i := 12) (N := some 17) (v := ?_) (a' := ?_) #[true, true, true, true, false, true, true, true, true, true, true, false, true, false, false, false, false, false, false, false, false, false] rfl rfl (by kernel_rfl) (fun _ _ _ h => h) (Or.inl ⟨by rfl, ?_⟩) ?_ ?_
 rotate_left
 ·intro w'
  go_simp
  with_reducible rfl
 rotate_left
 ·simp only [Act.put, zsI, zs0, zs1]
  rfl
 refine pure_ (i := 13) (N := some 18) (v := ?_) (a' := ?_) #[true, true, true, true, false, true, true, true, true, true, true, false, true, true, false, false, false, false, false, false, false, false] rfl rfl (by kernel_rfl) (fun _ _ _ h => h) (Or.inl ⟨by rfl, ?_⟩) ?_ ?_
 rotate_left
 ·intro w'
  go_simp
  with_reducible rfl
 rotate_left
 ·simp only [Act.put, zsI, zs0, zs1]
  rfl
 refine take_ (i := 14) (N := some 19) (v := ?_) (a' := ?_) #[true, true, true, true, false, true, true, true, true, true, true, false, true, true, true, false, false, false, false, false, false, false] rfl rfl (by kernel_rfl) (fun _ _ _ h => h) (Or.inl ⟨by rfl, ?_⟩) ⟨(blk_cell BA.out 0).trans rfl, (blk_cell BA.out 1).trans rfl, (blk_cell BA.out 2).trans rfl, (blk_cell BB.out 0).trans rfl, (blk_cell BB.out 1).trans rfl, (blk_cell BB.out 2).trans rfl⟩ ?_ ?_
 rotate_left
 ·intro w' hS
  obtain ⟨s0, s1, s2, s3, s4, s5⟩ := hS
  go_simp
  with_reducible rfl
 rotate_left
 ·simp only [Act.put, zsI, zs0, zs1]
  rfl
 refine pure_ (i := 15) (N := some 20) (v := ?_) (a' := ?_) #[true, true, true, true, false, true, true, true, true, true, true, false, true, true, true, true, false, false, false, false, false, false] rfl rfl (by kernel_rfl) (fun _ _ _ h => h) (Or.inl ⟨by rfl, ?_⟩) ?_ ?_
 rotate_left
 ·intro w'
  go_simp
  with_reducible rfl
 rotate_left
 ·simp only [Act.put, zsI, zs0, zs1]
  rfl
 refine pure_ (i := 16) (N := some 21) (v := ?_) (a' := ?_) #[true, true, true, true, false, true, true, true, true, true, true, false, true, true, true, true, true, false, false, false, false, false] rfl rfl (by kernel_rfl) (fun _ _ _ h => h) (Or.inl ⟨by rfl, ?_⟩) ?_ ?_
 rotate_left
 ·intro w'
  go_simp
  with_reducible rfl
 rotate_left
 ·simp only [Act.put, zsI, zs0, zs1]
  rfl
 refine take_ (i := 17) (N := some 22) (v := ?_) (a' := ?_) #[true, true, true, true, false, true, true, true, true, true, true, false, true, true, true, true, true, true, false, false, false, false] rfl rfl (by kernel_rfl) (fun _ _ _ h => h) (Or.inl ⟨by rfl, ?_⟩) ⟨(blk_cell BA.out 0).trans rfl, (blk_cell BA.out 1).trans rfl, (blk_cell BA.out 2).trans rfl, (blk_cell BB.out 0).trans rfl, (blk_cell BB.out 1).trans rfl, (blk_cell BB.out 2).trans rfl⟩ ?_ ?_
 rotate_left
 ·intro w' hS
  obtain ⟨s0, s1, s2, s3, s4, s5⟩ := hS
  go_simp
  with_reducible rfl
 rotate_left
 ·simp only [Act.put, zsI, zs0, zs1]
  rfl
 refine one_ (i := 4) (N := some 9) #[true, true, true, true, true, true, true, true, true, true, true, false, true, true, true, true, true, true, false, false, false, false] rfl rfl (by kernel_rfl) (by simp) (fun K hK => ?_)
 refine goes_ Try.func135 (by kernel_rfl) rfl #[.string x.g, .string y.g] (by rfl) rfl rfl (by simp only [List.map_toArray, List.map_cons, List.map_nil] <;> rfl) ?_
 refine (q1 _).mono ?_
 rintro e w4 ⟨rfl, ⟨nd, hw⟩⟩
 have n_BA := mkA (show w4.heap[ga]? = some (.cells #[.string x.g, .string x.t, .int .i64 x.p] 74 (0, 0)) from hw ▸ blk_drewN BA.out nd)
 have n_BB := mkA (show w4.heap[gb]? = some (.cells #[.string y.g, .string y.t, .int .i64 y.p] 74 (0, 0)) from hw ▸ blk_drewN BB.out nd)
 have n_HG := mkA (show Gr w w4 from hw ▸ gr_drewN HG.out nd)
 clear BA BB HG hw
 have BA := n_BA
 have BB := n_BB
 have HG := n_HG
 clear n_BA n_BB n_HG
 refine ⟨_, rfl, hK.out _ _ ⟨(blk_cell BA.out 0).trans rfl, (blk_cell BA.out 1).trans rfl, (blk_cell BA.out 2).trans rfl, (blk_cell BB.out 0).trans rfl, (blk_cell BB.out 1).trans rfl, (blk_cell BB.out 2).trans rfl⟩ (fun _ => ?_)⟩
 clear hK K
 refine norm_ (a' := ?_) ?_ ?_
 rotate_left
 ·simp only [Act.put, zsI, zs0, zs1]
  rfl
 refine one_ (i := 11) (N := some 16) #[true, true, true, true, true, true, true, true, true, true, true, true, true, true, true, true, true, true, false, false, false, false] rfl rfl (by kernel_rfl) (by simp) (fun K hK => ?_)
 refine goes_ Try.func135 (by kernel_rfl) rfl #[.string x.t, .string y.t] (by rfl) rfl rfl (by simp only [List.map_toArray, List.map_cons, List.map_nil] <;> rfl) ?_
 refine (q2 _).mono ?_
 rintro e w5 ⟨rfl, ⟨nd, hw⟩⟩
 have n_BA := mkA (show w5.heap[ga]? = some (.cells #[.string x.g, .string x.t, .int .i64 x.p] 74 (0, 0)) from hw ▸ blk_drewN BA.out nd)
 have n_BB := mkA (show w5.heap[gb]? = some (.cells #[.string y.g, .string y.t, .int .i64 y.p] 74 (0, 0)) from hw ▸ blk_drewN BB.out nd)
 have n_HG := mkA (show Gr w w5 from hw ▸ gr_drewN HG.out nd)
 clear BA BB HG hw
 have BA := n_BA
 have BB := n_BB
 have HG := n_HG
 clear n_BA n_BB n_HG
 refine ⟨_, rfl, hK.out _ _ ⟨(blk_cell BA.out 0).trans rfl, (blk_cell BA.out 1).trans rfl, (blk_cell BA.out 2).trans rfl, (blk_cell BB.out 0).trans rfl, (blk_cell BB.out 1).trans rfl, (blk_cell BB.out 2).trans rfl⟩ (fun _ => ?_)⟩
 clear hK K
 refine norm_ (a' := ?_) ?_ ?_
 rotate_left
 ·simp only [Act.put, zsI, zs0, zs1]
  rfl
 refine one_ (i := 18) (N := some 23) #[true, true, true, true, true, true, true, true, true, true, true, true, true, true, true, true, true, true, true, false, false, false] rfl rfl (by kernel_rfl) (by simp) (fun K hK => ?_)
 refine goes_ Try.func136 (by kernel_rfl) rfl #[.int .i64 x.p, .int .i64 y.p] (by rfl) rfl rfl (by simp only [List.map_toArray, List.map_cons, List.map_nil] <;> rfl) ?_
 refine (q3 _).mono ?_
 rintro e w6 ⟨rfl, ⟨nd, hw⟩⟩
 have n_BA := mkA (show w6.heap[ga]? = some (.cells #[.string x.g, .string x.t, .int .i64 x.p] 74 (0, 0)) from hw ▸ blk_drewN BA.out nd)
 have n_BB := mkA (show w6.heap[gb]? = some (.cells #[.string y.g, .string y.t, .int .i64 y.p] 74 (0, 0)) from hw ▸ blk_drewN BB.out nd)
 have n_HG := mkA (show Gr w w6 from hw ▸ gr_drewN HG.out nd)
 clear BA BB HG hw
 have BA := n_BA
 have BB := n_BB
 have HG := n_HG
 clear n_BA n_BB n_HG
 refine ⟨_, rfl, hK.out _ _ ⟨(blk_cell BA.out 0).trans rfl, (blk_cell BA.out 1).trans rfl, (blk_cell BA.out 2).trans rfl, (blk_cell BB.out 0).trans rfl, (blk_cell BB.out 1).trans rfl, (blk_cell BB.out 2).trans rfl⟩ (fun _ => ?_)⟩
 clear hK K
 refine norm_ (a' := ?_) ?_ ?_
 rotate_left
 ·simp only [Act.put, zsI, zs0, zs1]
  rfl
 refine one_ (i := 19) (N := some 24) #[true, true, true, true, true, true, true, true, true, true, true, true, true, true, true, true, true, true, true, true, false, false] rfl rfl (by kernel_rfl) (by simp) (fun K hK => ?_)
 refine event_step (v := .slice (some ⟨w6.heap.size, 0, none⟩) 3 3) (w1 := w6.alloc (.cells #[.int .i64 c1, .int .i64 c2, .int .i64 c3] 3)) (by rfl) ?hr ?_
 case hr => first | (go_simp; done) | (go_simp; rfl)
 have n_BA := mkA (blk_alloc BA.out (.cells #[.int .i64 c1, .int .i64 c2, .int .i64 c3] 3))
 have n_BB := mkA (blk_alloc BB.out (.cells #[.int .i64 c1, .int .i64 c2, .int .i64 c3] 3))
 have n_HG := mkA (gr_alloc HG.out (.cells #[.int .i64 c1, .int .i64 c2, .int .i64 c3] 3))
 clear BA BB HG
 have BA := n_BA
 have BB := n_BB
 have HG := n_HG
 clear n_BA n_BB n_HG
 have HC := mkA (kdC_lit w6 c1 c2 c3)
 obtain ⟨gs, hgs⟩ : ∃ g, w6.heap.size = g := ⟨_, rfl⟩
 rw [hgs] at HC ⊢
 clear hgs
 obtain ⟨w7, hw7⟩ : ∃ w7, w6.alloc (.cells #[.int .i64 c1, .int .i64 c2, .int .i64 c3] 3) = w7 := ⟨_, rfl⟩
 rw [hw7] at HC BA BB HG ⊢
 clear hw7
 refine hK.out _ _ ⟨(blk_cell BA.out 0).trans rfl, (blk_cell BA.out 1).trans rfl, (blk_cell BA.out 2).trans rfl, (blk_cell BB.out 0).trans rfl, (blk_cell BB.out 1).trans rfl, (blk_cell BB.out 2).trans rfl⟩ (fun _ => ?_)
 clear hK K
 refine norm_ (a' := ?_) ?_ ?_
 rotate_left
 ·show Act.put _ (some 24) _ = _
  simp only [Act.put, zsI, zs0, zs1]
  rfl
 refine one_ (i := 20) (N := some 25) #[true, true, true, true, true, true, true, true, true, true, true, true, true, true, true, true, true, true, true, true, true, false] rfl rfl (by kernel_rfl) (by simp) (fun K hK => ?_)
 refine goes_ Try.func134 (by kernel_rfl) rfl #[.slice (some ⟨gs, 0, none⟩) 3 3] (by rfl) rfl rfl (by simp only [List.map_toArray, List.map_cons, List.map_nil] <;> rfl) ?_
 refine (cmp_Or_int.calls 4 (some ⟨gs, 0, none⟩) 3 [c1, c2, c3] _ _ HC.out (Nat.le_refl 3) (cO_f c1 c2 c3)).mono ?_
 rintro e w8 ⟨rfl, ⟨nd, hw⟩⟩
 have n_BA := mkA (show w8.heap[ga]? = some (.cells #[.string x.g, .string x.t, .int .i64 x.p] 74 (0, 0)) from hw ▸ blk_drewN BA.out nd)
 have n_BB := mkA (show w8.heap[gb]? = some (.cells #[.string y.g, .string y.t, .int .i64 y.p] 74 (0, 0)) from hw ▸ blk_drewN BB.out nd)
 have n_HG := mkA (show Gr w w8 from hw ▸ gr_drewN HG.out nd)
 clear BA BB HG hw
 have BA := n_BA
 have BB := n_BB
 have HG := n_HG
 clear n_BA n_BB n_HG
 refine ⟨_, rfl, hK.out _ _ ⟨(blk_cell BA.out 0).trans rfl, (blk_cell BA.out 1).trans rfl, (blk_cell BA.out 2).trans rfl, (blk_cell BB.out 0).trans rfl, (blk_cell BB.out 1).trans rfl, (blk_cell BB.out 2).trans rfl⟩ (fun _ => ?_)⟩
 clear hK K
 refine norm_ (a' := ?_) ?_ ?_
 rotate_left
 ·simp only [Act.put, zsI, zs0, zs1]
  rfl
 refine pure_ (i := 21) (N := some 4) (v := ?_) (a' := ?_) #[true, true, true, true, true, true, true, true, true, true, true, true, true, true, true, true, true, true, true, true, true, true] rfl rfl (by kernel_rfl) (fun _ _ _ h => h) (Or.inl ⟨by rfl, ?_⟩) ?_ ?_
 rotate_left
 ·intro w'
  go_simp
  with_reducible rfl
 rotate_left
 ·simp only [Act.put, zsI, zs0, zs1]
  rfl
 refine done_ (by kernel_rfl) ?_
 go_wp2
 go_ret
 exact ⟨rfl, HG.out⟩
end Go.Proofs.Ytohhlkabejangaa.Of
