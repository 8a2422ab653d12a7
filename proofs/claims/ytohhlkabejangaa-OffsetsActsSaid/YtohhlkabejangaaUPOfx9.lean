import Derived.Test.YtohhlkabejangaaUPOfx0
import Derived.Test.YtohhlkabejangaaUPOfx5
import Derived.Test.YtohhlkabejangaaUPOfx6
import Derived.Test.YtohhlkabejangaaUPOfx7
import Derived.Test.YtohhlkabejangaaUPOfx8
-- halved
namespace Go.Proofs.Ytohhlkabejangaa.POf
open Go.Proofs.Ytohhlkabejangaa.Hand
open Go.RowKit Go.Proofs.YtohhlkabejangaaW.PrintWords Go.Proofs.YtohhlkabejangaaW.PrintLast Go.Proofs.YtohhlkabejangaaW.PrintMore
open Go.Proofs.YtohhlkabejangaaW.PrintWords renaming blk_drewN → bN, blk_drew → bD, blk_alloc → bA, below_alloc → lA, pw_below_drewN → lN, below_drew1 → lD, below_set → lS, blk_cell → bC, blk_frozen → bF, blk_far → bR, blk_put → bP, blk_below → bB
open Go.Proofs.YtohhlkabejangaaW.PrintWords.Aside0 renaming mk → mkA
open List renaming setIfInBounds_toArray → zsI, set_cons_zero → zs0, set_cons_succ → zs1
open Go.Proofs.YtohhlkabejangaaW.PrintWords.Kd renaming R_alloc → zrA, R_drewN → zrN, R_drew → zrD, R_far → zrF, R_below → zrB, R_mono → zrM
open Go.Proofs.YtohhlkabejangaaW.PrintWords renaming below_step → zbS
attribute [local go_sem] max2_int min2_int max_two min_two max_three min_three max_four min_four
set_option linter.unusedVariables false
set_option linter.unusedSimpArgs false
mutual
def weighlockref24_commit.j0 : Nat → List (S166) → ByteArray → Int → Bool → ByteArray → Int → Int → ByteArray → Int → Int → Int → Int → Int → Option ((List (S166)) × Bool)
 | 0, _, _, _, _, _, _, _, _, _, _, _, _, _ => none
 | k + 1, x0, x1, x7, x44, x194000, x194001, x194002, x198000, x198001, x198002, x202000, x202001, x202002 => if x44 = true then (some (x0, false)) else (if 0 ≤ (wrap64 (x7 + x202001)) then (if (wrap64 (x7 + x202001)) ≤ (x1.size : Int) then ((weighlockref01_Unchain.f k (x1.extract ((wrap64 (x7 + x202001)) : Int).toNat x1.size)).bind fun bt202 => (if bt202.2.2 = 0 then (if bt202.1 > 1048577 then (weighlockref24_commit.j1 k x0 true x194000 x194001 x194002 x198000 x198001 x198002 x202000 x202001 x202002 bt202.1 bt202.2.1 bt202.2.2) else (weighlockref24_commit.j1 k x0 ((wrap64 ((wrap64 (x7 + x202001)) + bt202.2.1)) != (x1.size : Int)) x194000 x194001 x194002 x198000 x198001 x198002 x202000 x202001 x202002 bt202.1 bt202.2.1 bt202.2.2)) else (weighlockref24_commit.j1 k x0 true x194000 x194001 x194002 x198000 x198001 x198002 x202000 x202001 x202002 bt202.1 bt202.2.1 bt202.2.2))) else (none)) else (none))
def weighlockref24_commit.j1 : Nat → List (S166) → Bool → ByteArray → Int → Int → ByteArray → Int → Int → Int → Int → Int → Int → Int → Int → Option ((List (S166)) × Bool)
 | 0, _, _, _, _, _, _, _, _, _, _, _, _, _, _ => none
 | k + 1, x0, x73, x194000, x194001, x194002, x198000, x198001, x198002, x202000, x202001, x202002, x206000, x206001, x206002 => if x73 = true then (some (x0, false)) else ((weighlockref24_May.f k x194000 x198000 (wrap64 (x202000)) (wrap64 (x206000))).bind fun t207 => (if t207 = true then ((weighlockref24_Room.f k x0 x194000).bind fun t208 => (if t208 = true then ((weighlockref24_Put.f k x0 x194000 x198000 (wrap64 (x202000)) (wrap64 (x206000))).bind fun t209 => (some (t209, true))) else (some (x0, false)))) else (some (x0, false))))
end
def weighlockref24_commit.f (k : Nat) (l0 : List (S166)) (a1 : ByteArray) : Option ((List (S166)) × Bool) := (weighlockref01_Untext.f k a1).bind fun bt190 => (if bt190.2.2 = 0 then (if 0 ≤ bt190.2.1 then (if bt190.2.1 ≤ (a1.size : Int) then ((weighlockref01_Untext.f k (a1.extract (bt190.2.1 : Int).toNat a1.size)).bind fun bt194 => (if bt194.2.2 = 0 then (if 0 ≤ (wrap64 (bt190.2.1 + bt194.2.1)) then (if (wrap64 (bt190.2.1 + bt194.2.1)) ≤ (a1.size : Int) then ((weighlockref01_Unchain.f k (a1.extract ((wrap64 (bt190.2.1 + bt194.2.1)) : Int).toNat a1.size)).bind fun bt198 => (if bt198.2.2 = 0 then (weighlockref24_commit.j0 k l0 a1 (wrap64 (bt190.2.1 + bt194.2.1)) (decide (bt198.1 > 3)) bt190.1 bt190.2.1 bt190.2.2 bt194.1 bt194.2.1 bt194.2.2 bt198.1 bt198.2.1 bt198.2.2) else (weighlockref24_commit.j0 k l0 a1 (wrap64 (bt190.2.1 + bt194.2.1)) true bt190.1 bt190.2.1 bt190.2.2 bt194.1 bt194.2.1 bt194.2.2 bt198.1 bt198.2.1 bt198.2.2))) else (none)) else (none)) else (some (l0, false)))) else (none)) else (none)) else (some (l0, false)))
theorem weighlockref24_commit.mono_l : ∀ k, (∀ y0 y1 y2 y3 y4 y5 y6 y7 y8 y9 y10 y11 y12, LeO (weighlockref24_commit.j0 k y0 y1 y2 y3 y4 y5 y6 y7 y8 y9 y10 y11 y12) (weighlockref24_commit.j0 (k + 1) y0 y1 y2 y3 y4 y5 y6 y7 y8 y9 y10 y11 y12)) ∧ (∀ y0 y1 y2 y3 y4 y5 y6 y7 y8 y9 y10 y11 y12 y13, LeO (weighlockref24_commit.j1 k y0 y1 y2 y3 y4 y5 y6 y7 y8 y9 y10 y11 y12 y13) (weighlockref24_commit.j1 (k + 1) y0 y1 y2 y3 y4 y5 y6 y7 y8 y9 y10 y11 y12 y13))
 | 0 => ⟨fun _ _ _ _ _ _ _ _ _ _ _ _ _ r h => by simp [weighlockref24_commit.j0] at h, fun _ _ _ _ _ _ _ _ _ _ _ _ _ _ r h => by simp [weighlockref24_commit.j1] at h⟩
 | k + 1 => by
  obtain ⟨ih0, ih1⟩ := weighlockref24_commit.mono_l k
  refine ⟨?_, ?_⟩
  ·intro y0 y1 y2 y3 y4 y5 y6 y7 y8 y9 y10 y11 y12
   unfold weighlockref24_commit.j0
   repeat' first
   | (with_reducible exact ih0 _ _ _ _ _ _ _ _ _ _ _ _ _)
   | (with_reducible exact ih1 _ _ _ _ _ _ _ _ _ _ _ _ _ _)
   | (with_reducible exact weighlockref01_Unchain.mono _ _)
   | (with_reducible exact weighlockref01_Untext.mono _ _)
   | (with_reducible exact weighlockref24_May.mono _ _ _ _ _)
   | (with_reducible exact weighlockref24_Put.mono _ _ _ _ _ _)
   | (with_reducible exact weighlockref24_Room.mono _ _ _)
   | (with_reducible exact LeO.refl _)
   | (with_reducible exact LeO.none _)
   | (with_reducible refine LeO.ite ?_ ?_)
   | (with_reducible refine LeO.bind ?_ (fun _ => ?_))
   | exact ih0 _ _ _ _ _ _ _ _ _ _ _ _ _
   | exact ih1 _ _ _ _ _ _ _ _ _ _ _ _ _ _
   | exact weighlockref01_Unchain.mono _ _
   | exact weighlockref01_Untext.mono _ _
   | exact weighlockref24_May.mono _ _ _ _ _
   | exact weighlockref24_Put.mono _ _ _ _ _ _
   | exact weighlockref24_Room.mono _ _ _
   | exact LeO.none _
   | refine LeO.ite ?_ ?_
   | refine LeO.bind ?_ (fun _ => ?_)
  ·intro y0 y1 y2 y3 y4 y5 y6 y7 y8 y9 y10 y11 y12 y13
   unfold weighlockref24_commit.j1
   repeat' first
   | (with_reducible exact ih0 _ _ _ _ _ _ _ _ _ _ _ _ _)
   | (with_reducible exact ih1 _ _ _ _ _ _ _ _ _ _ _ _ _ _)
   | (with_reducible exact weighlockref01_Unchain.mono _ _)
   | (with_reducible exact weighlockref01_Untext.mono _ _)
   | (with_reducible exact weighlockref24_May.mono _ _ _ _ _)
   | (with_reducible exact weighlockref24_Put.mono _ _ _ _ _ _)
   | (with_reducible exact weighlockref24_Room.mono _ _ _)
   | (with_reducible exact LeO.refl _)
   | (with_reducible exact LeO.none _)
   | (with_reducible refine LeO.ite ?_ ?_)
   | (with_reducible refine LeO.bind ?_ (fun _ => ?_))
   | exact ih0 _ _ _ _ _ _ _ _ _ _ _ _ _
   | exact ih1 _ _ _ _ _ _ _ _ _ _ _ _ _ _
   | exact weighlockref01_Unchain.mono _ _
   | exact weighlockref01_Untext.mono _ _
   | exact weighlockref24_May.mono _ _ _ _ _
   | exact weighlockref24_Put.mono _ _ _ _ _ _
   | exact weighlockref24_Room.mono _ _ _
   | exact LeO.none _
   | refine LeO.ite ?_ ?_
   | refine LeO.bind ?_ (fun _ => ?_)
theorem weighlockref24_commit.mono : ∀ a0 a1 k, LeO (weighlockref24_commit.f k a0 a1) (weighlockref24_commit.f (k + 1) a0 a1) := by
 intro a0 a1 k
 obtain ⟨ih0, ih1⟩ := weighlockref24_commit.mono_l k
 unfold weighlockref24_commit.f
 repeat' first
   | (with_reducible exact ih0 _ _ _ _ _ _ _ _ _ _ _ _ _)
   | (with_reducible exact ih1 _ _ _ _ _ _ _ _ _ _ _ _ _ _)
   | (with_reducible exact weighlockref01_Unchain.mono _ _)
   | (with_reducible exact weighlockref01_Untext.mono _ _)
   | (with_reducible exact weighlockref24_May.mono _ _ _ _ _)
   | (with_reducible exact weighlockref24_Put.mono _ _ _ _ _ _)
   | (with_reducible exact weighlockref24_Room.mono _ _ _)
   | (with_reducible exact LeO.refl _)
   | (with_reducible exact LeO.none _)
   | (with_reducible refine LeO.ite ?_ ?_)
   | (with_reducible refine LeO.bind ?_ (fun _ => ?_))
   | exact ih0 _ _ _ _ _ _ _ _ _ _ _ _ _
   | exact ih1 _ _ _ _ _ _ _ _ _ _ _ _ _ _
   | exact weighlockref01_Unchain.mono _ _
   | exact weighlockref01_Untext.mono _ _
   | exact weighlockref24_May.mono _ _ _ _ _
   | exact weighlockref24_Put.mono _ _ _ _ _ _
   | exact weighlockref24_Room.mono _ _ _
   | exact LeO.none _
   | refine LeO.ite ?_ ?_
   | refine LeO.bind ?_ (fun _ => ?_)
set_option maxHeartbeats 8000000 in
set_option maxRecDepth 100000 in
theorem weighlockref24_commit.calls (k : Nat) (P0_ : Nat → Prop) (u9000_ : Value) (l0 : List (S166)) (a1 : ByteArray) (r1 : List (S166)) (r2 : Bool) (w0 w : World) (hB : Below w0.heap.size w0 w) (ho0 : Kd.R k166 166 w w0.heap.size P0_ u9000_ l0) (h : weighlockref24_commit.f k l0 a1 = some (r1, r2)) :
  Calls Try.prog 103 #[u9000_, .string a1] w fun e w' => ∃ v0_ : Value, e = .returned (.agg #[v0_, .bool r2]) ∧ Kd.R k166 166 w' w0.heap.size (fun k_ => (P0_ k_ ∨ w.heap.size ≤ k_)) v0_ r1 ∧ Below w0.heap.size w0 w' ∧ Kept w w' (fun k_ => P0_ k_) := by
 have hu95 := Try.underlying95
 have hu173 := Try.underlying173
 have hu216 := Try.underlying216
 have hu72 := Try.underlying72
 have hu166 := Try.underlying166
 have HO0 := mkA (show Kd.R k166 166 w w0.heap.size (fun k_ => (P0_ k_ ∨ w.heap.size ≤ k_)) u9000_ l0 from zrM ho0 (fun k_ hk => (.inl hk)))
 have HK := mkA (Kept.refl w (fun k_ => P0_ k_))
 have HW0 := mkA hB.size
 have HB := mkA hB
 clear hB
 have H : ((weighlockref01_Untext.f k a1).bind fun bt190 => (if bt190.2.2 = 0 then (if 0 ≤ bt190.2.1 then (if bt190.2.1 ≤ (a1.size : Int) then ((weighlockref01_Untext.f k (a1.extract (bt190.2.1 : Int).toNat a1.size)).bind fun bt194 => (if bt194.2.2 = 0 then (if 0 ≤ (wrap64 (bt190.2.1 + bt194.2.1)) then (if (wrap64 (bt190.2.1 + bt194.2.1)) ≤ (a1.size : Int) then ((weighlockref01_Unchain.f k (a1.extract ((wrap64 (bt190.2.1 + bt194.2.1)) : Int).toNat a1.size)).bind fun bt198 => (if bt198.2.2 = 0 then (weighlockref24_commit.j0 k l0 a1 (wrap64 (bt190.2.1 + bt194.2.1)) (decide (bt198.1 > 3)) bt190.1 bt190.2.1 bt190.2.2 bt194.1 bt194.2.1 bt194.2.2 bt198.1 bt198.2.1 bt198.2.2) else (weighlockref24_commit.j0 k l0 a1 (wrap64 (bt190.2.1 + bt194.2.1)) true bt190.1 bt190.2.1 bt190.2.2 bt194.1 bt194.2.1 bt194.2.2 bt198.1 bt198.2.1 bt198.2.2))) else (none)) else (none)) else (some (l0, false)))) else (none)) else (none)) else (some (l0, false)))) = some (r1, r2) := h
 clear h
 replace H := Option.bind_eq_some_iff.mp H
 obtain ⟨⟨t190, t191, t192⟩, A30, H⟩ := H
 replace H : (if t192 = 0 then (if 0 ≤ t191 then (if t191 ≤ (a1.size : Int) then ((weighlockref01_Untext.f k (a1.extract (t191 : Int).toNat a1.size)).bind fun bt194 => (if bt194.2.2 = 0 then (if 0 ≤ (wrap64 (t191 + bt194.2.1)) then (if (wrap64 (t191 + bt194.2.1)) ≤ (a1.size : Int) then ((weighlockref01_Unchain.f k (a1.extract ((wrap64 (t191 + bt194.2.1)) : Int).toNat a1.size)).bind fun bt198 => (if bt198.2.2 = 0 then (weighlockref24_commit.j0 k l0 a1 (wrap64 (t191 + bt194.2.1)) (decide (bt198.1 > 3)) t190 t191 t192 bt194.1 bt194.2.1 bt194.2.2 bt198.1 bt198.2.1 bt198.2.2) else (weighlockref24_commit.j0 k l0 a1 (wrap64 (t191 + bt194.2.1)) true t190 t191 t192 bt194.1 bt194.2.1 bt194.2.2 bt198.1 bt198.2.1 bt198.2.2))) else (none)) else (none)) else (some (l0, false)))) else (none)) else (none)) else (some (l0, false))) = some (r1, r2) := H
 have A3 := mkA A30
 clear A30
 by_cases c4 : t192 = 0
 ·rw [if_pos c4] at H
  have c4b0 : (t192 == 0) = true := beq_iff_eq.mpr c4
  have c4b1 : (t192 != 0) = false := bne_eq_false_iff_eq.mpr c4
  clear c4
  by_cases c5 : 0 ≤ t191
  ·rw [if_pos c5] at H
   have c5b0 := eq_true c5
   have c5b1 : decide (0 ≤ t191) = true := decide_eq_true c5
   clear c5
   by_cases c6 : t191 ≤ (a1.size : Int)
   ·rw [if_pos c6] at H
    have c6b0 := eq_true c6
    have c6b1 : decide (t191 ≤ (a1.size : Int)) = true := decide_eq_true c6
    clear c6
    replace H := Option.bind_eq_some_iff.mp H
    obtain ⟨⟨t194, t195, t196⟩, A70, H⟩ := H
    replace H : (if t196 = 0 then (if 0 ≤ (wrap64 (t191 + t195)) then (if (wrap64 (t191 + t195)) ≤ (a1.size : Int) then ((weighlockref01_Unchain.f k (a1.extract ((wrap64 (t191 + t195)) : Int).toNat a1.size)).bind fun bt198 => (if bt198.2.2 = 0 then (weighlockref24_commit.j0 k l0 a1 (wrap64 (t191 + t195)) (decide (bt198.1 > 3)) t190 t191 t192 t194 t195 t196 bt198.1 bt198.2.1 bt198.2.2) else (weighlockref24_commit.j0 k l0 a1 (wrap64 (t191 + t195)) true t190 t191 t192 t194 t195 t196 bt198.1 bt198.2.1 bt198.2.2))) else (none)) else (none)) else (some (l0, false))) = some (r1, r2) := H
    have A7 := mkA A70
    clear A70
    by_cases c8 : t196 = 0
    ·rw [if_pos c8] at H
     have c8b0 : (t196 == 0) = true := beq_iff_eq.mpr c8
     have c8b1 : (t196 != 0) = false := bne_eq_false_iff_eq.mpr c8
     clear c8
     obtain ⟨ji9, hji9⟩ : ∃ j_ : Int, (wrap64 (t191 + t195)) = j_ := ⟨_, rfl⟩
     replace H : (if 0 ≤ (ji9) then (if (ji9) ≤ (a1.size : Int) then ((weighlockref01_Unchain.f k (a1.extract ((ji9) : Int).toNat a1.size)).bind fun bt198 => (if bt198.2.2 = 0 then (weighlockref24_commit.j0 k l0 a1 ji9 (decide (bt198.1 > 3)) t190 t191 t192 t194 t195 t196 bt198.1 bt198.2.1 bt198.2.2) else (weighlockref24_commit.j0 k l0 a1 ji9 true t190 t191 t192 t194 t195 t196 bt198.1 bt198.2.1 bt198.2.2))) else (none)) else (none)) = some (r1, r2) := by first | (rw [hji9] at H; exact H) | (simp only [hji9] at H ⊢; exact H)
     (try rw [hji9] at A3)
     (try rw [hji9] at A7)
     have hji9w : (IntKind.i64.wrap (t191 + t195)) = ji9 := (i64_w _).trans hji9
     by_cases c10 : 0 ≤ (ji9)
     ·rw [if_pos c10] at H
      have c10b0 := eq_true c10
      have c10b1 : decide (0 ≤ (ji9)) = true := decide_eq_true c10
      clear c10
      by_cases c11 : (ji9) ≤ (a1.size : Int)
      ·rw [if_pos c11] at H
       have c11b0 := eq_true c11
       have c11b1 : decide ((ji9) ≤ (a1.size : Int)) = true := decide_eq_true c11
       clear c11
       replace H := Option.bind_eq_some_iff.mp H
       obtain ⟨⟨t198, t199, t200⟩, A120, H⟩ := H
       replace H : (if t200 = 0 then (weighlockref24_commit.j0 k l0 a1 ji9 (decide (t198 > 3)) t190 t191 t192 t194 t195 t196 t198 t199 t200) else (weighlockref24_commit.j0 k l0 a1 ji9 true t190 t191 t192 t194 t195 t196 t198 t199 t200)) = some (r1, r2) := H
       have A12 := mkA A120
       clear A120
       have HC13 := mkA H
       clear H
       go_enter Try.func103, Try.ntmps103
       go_upto_region 9 with (first | ((with_reducible refine gate_dst (N := 4) rfl ?_); (try (refine gate_guard (by rfl) ?_; dsimp only)); refine box_event ?hg (N := 4) ?hd (cs := #[.slice none 0 0, .bool false]) (t := 95) ?hr ?_; (case hd => rfl); (case hg => rfl); (case hr => first | (go_simp; done) | (go_simp; rfl)); intro gb189 hg w14 hbox hb; have n0_ := mkA (zrB (by (with_reducible repeat (first | apply zrA | apply zrN | apply zrD)); exact HO0.out) hb); have n1_ := mkA (Kept.below (S := (fun k_ => P0_ k_)) (by repeat (first | (with_reducible first | exact HK.out | apply Kept.alloc | apply Kept.drewN | apply Kept.drew) | exact HK.out)) hb); have n2_ := mkA (zbS (by repeat (first | (with_reducible first | exact HB.out | apply lA | apply lN | apply lD) | exact HB.out)) hb); have n3_ := mkA (hbox); have n4_ := mkA ((by rw [hg]; exact (by first | exact HK.out.1 | exact (show Kept w _ (fun k_ => P0_ k_) from by repeat (first | (with_reducible first | exact HK.out | apply Kept.alloc | apply Kept.drewN | apply Kept.drew) | exact HK.out)).1) : w.heap.size ≤ gb189)); have n5_ := mkA ((by rw [hg]; exact (below_size (by repeat (first | (with_reducible first | exact HB.out | apply lA | apply lN | apply lD) | exact HB.out))) : w0.heap.size ≤ gb189)); clear HO0; clear HK; clear HB; have HO0 := n0_; have HK := n1_; have HB := n2_; have BK189 := n3_; have GW189 := n4_; have GE189 := n5_; clear n0_ n1_ n2_ n3_ n4_ n5_; clear hb hbox hg) | ((with_reducible refine gate_callee (f := 104) rfl ?_); refine goesL_ (some 12) rfl rfl Try.func104 (by kernel_rfl) rfl #[.string a1] rfl (by (try simp only [List.map_toArray, List.map_cons, List.map_nil]); first | done | rfl | (simp only [List.length_drop, List.length_take]; rfl)) ?_; (with_reducible refine (weighlockref01_Untext.calls k a1 t190 t191 t192 _ A3.out).mono ?_); rintro e w15 ⟨rfl, hb⟩; refine ⟨_, rfl, ?_⟩; have n0_ := mkA (zrB (by (with_reducible repeat (first | apply zrA | apply zrN | apply zrD)); exact HO0.out) hb); have n1_ := mkA (bB (g := gb189) (o := .cells #[.slice none 0 0, .bool false] 95 (0, 0)) (by (with_reducible repeat first | apply bN | apply bD | apply bA); exact BK189.out) hb); have n2_ := mkA (Kept.below (S := (fun k_ => P0_ k_)) (by repeat (first | (with_reducible first | exact HK.out | apply Kept.alloc | apply Kept.drewN | apply Kept.drew | refine Kept.setCell ?_ (.inr GW189.out) _) | exact HK.out)) hb); have n3_ := mkA (zbS (by repeat (first | (with_reducible first | exact HB.out | apply lA | apply lN | apply lD | refine lS ?_ GE189.out) | exact HB.out)) hb); clear HO0; clear BK189; clear HK; clear HB; have HO0 := n0_; have BK189 := n1_; have HK := n2_; have HB := n3_; clear n0_ n1_ n2_ n3_; (try clear hb); (try clear hb2); (try clear hk); (try clear hi)) | ((with_reducible refine gate_dst (N := 5) rfl ?_); (try (refine gate_guard (by rfl) ?_; dsimp only)); refine box_event ?hg (N := 5) ?hd (cs := #[.string (⟨#[]⟩ : ByteArray), .int .i64 0, .int .i64 0]) (t := 173) ?hr ?_; (case hd => rfl); (case hg => rfl); (case hr => first | (go_simp; done) | (go_simp; rfl)); intro gb193 hg w16 hbox hb; have n0_ := mkA (zrB (by (with_reducible repeat (first | apply zrA | apply zrN | apply zrD)); exact HO0.out) hb); have n1_ := mkA (bB (g := gb189) (o := .cells #[.slice none 0 0, .bool false] 95 (0, 0)) (by (with_reducible repeat first | apply bN | apply bD | apply bA); exact BK189.out) hb); have n2_ := mkA (Kept.below (S := (fun k_ => P0_ k_)) (by repeat (first | (with_reducible first | exact HK.out | apply Kept.alloc | apply Kept.drewN | apply Kept.drew | refine Kept.setCell ?_ (.inr GW189.out) _) | exact HK.out)) hb); have n3_ := mkA (zbS (by repeat (first | (with_reducible first | exact HB.out | apply lA | apply lN | apply lD | refine lS ?_ GE189.out) | exact HB.out)) hb); have n4_ := mkA (hbox); have n5_ := mkA ((by rw [hg]; exact (by first | exact HK.out.1 | exact (show Kept w _ (fun k_ => P0_ k_) from by repeat (first | (with_reducible first | exact HK.out | apply Kept.alloc | apply Kept.drewN | apply Kept.drew | refine Kept.setCell ?_ (.inr GW189.out) _) | exact HK.out)).1) : w.heap.size ≤ gb193)); have n6_ := mkA ((by rw [hg]; exact (below_size (by repeat (first | (with_reducible first | exact HB.out | apply lA | apply lN | apply lD | refine lS ?_ GE189.out) | exact HB.out))) : w0.heap.size ≤ gb193)); have n7_ := mkA ((by rw [hg]; exact Nat.ne_of_lt (blk_lt (g := gb189) (o := .cells #[.slice none 0 0, .bool false] 95 (0, 0)) (by (with_reducible repeat first | apply bN | apply bD | apply bA); exact BK189.out)) : gb189 ≠ gb193)); have n8_ := mkA ((by rw [hg]; exact Nat.ne_of_gt (blk_lt (g := gb189) (o := .cells #[.slice none 0 0, .bool false] 95 (0, 0)) (by (with_reducible repeat first | apply bN | apply bD | apply bA); exact BK189.out)) : gb193 ≠ gb189)); clear HO0; clear BK189; clear HK; clear HB; have HO0 := n0_; have BK189 := n1_; have HK := n2_; have HB := n3_; have BK193 := n4_; have GW193 := n5_; have GE193 := n6_; have NB189_193 := n7_; have NB193_189 := n8_; clear n0_ n1_ n2_ n3_ n4_ n5_ n6_ n7_ n8_; clear hb hbox hg; have hnb17 := NB193_189.out; have hnc17 := NB189_193.out; have hcz18_0 : w16.cell? ⟨gb193, 0, none⟩ = some (.string (⟨#[]⟩ : ByteArray)) := (bC BK193.out 0).trans rfl; have hcz18_1 : w16.cell? ⟨gb193, 1, none⟩ = some (.int .i64 0) := (bC BK193.out 1).trans rfl; have hcz18_2 : w16.cell? ⟨gb193, 2, none⟩ = some (.int .i64 0) := (bC BK193.out 2).trans rfl; have hfz18_0 := bF BK193.out 0; have hfz18_1 := bF BK193.out 1; have hfz18_2 := bF BK193.out 2) | ((with_reducible refine gate_callee (f := 104) rfl ?_); refine goesL_ (some 22) rfl rfl Try.func104 (by kernel_rfl) rfl #[.string (a1.extract (t191 : Int).toNat a1.size)] rfl (by (try simp only [List.map_toArray, List.map_cons, List.map_nil]); first | done | rfl | (simp only [List.length_drop, List.length_take]; rfl)) ?_; (with_reducible refine (weighlockref01_Untext.calls k (a1.extract (t191 : Int).toNat a1.size) t194 t195 t196 _ A7.out).mono ?_); rintro e w19 ⟨rfl, hb⟩; refine ⟨_, rfl, ?_⟩; have n0_ := mkA (zrB (by (with_reducible repeat (first | apply zrA | apply zrN | apply zrD)); exact (zrM (zrF (p := ⟨gb193, 2, none⟩) (zrF (p := ⟨gb193, 1, none⟩) (zrF (p := ⟨gb193, 0, none⟩) (Kd.R_types HO0.out BK193.out (by decide)) (fun _ hk => hk.2) (.string t190)) (fun _ hk => hk.2) (.int .i64 t191)) (fun _ hk => hk.2) (.int .i64 t192)) (fun _ h_ => h_.1))) hb); have n1_ := mkA (bB (g := gb189) (o := .cells #[.slice none 0 0, .bool false] 95 (0, 0)) (by (with_reducible repeat first | apply bN | apply bD | apply bA); refine bR ?_ NB189_193.out _; (with_reducible repeat first | apply bN | apply bD | apply bA); refine bR ?_ NB189_193.out _; (with_reducible repeat first | apply bN | apply bD | apply bA); refine bR ?_ NB189_193.out _; (with_reducible repeat first | apply bN | apply bD | apply bA); exact BK189.out) hb); have n2_ := mkA (bB (g := gb193) (o := .cells #[.string t190, .int .i64 t191, .int .i64 t192] 173 (0, 0)) (by (with_reducible repeat first | apply bN | apply bD | apply bA); refine bP (cs := #[.string t190, .int .i64 t191, .int .i64 0]) ?_ 2 _ rfl; (with_reducible repeat first | apply bN | apply bD | apply bA); refine bP (cs := #[.string t190, .int .i64 0, .int .i64 0]) ?_ 1 _ rfl; (with_reducible repeat first | apply bN | apply bD | apply bA); refine bP (cs := #[.string (⟨#[]⟩ : ByteArray), .int .i64 0, .int .i64 0]) ?_ 0 _ rfl; (with_reducible repeat first | apply bN | apply bD | apply bA); exact BK193.out) hb); have n3_ := mkA (Kept.below (S := (fun k_ => P0_ k_)) (by repeat (first | (with_reducible first | exact HK.out | apply Kept.alloc | apply Kept.drewN | apply Kept.drew | refine Kept.setCell ?_ (.inr GW189.out) _ | refine Kept.setCell ?_ (.inr GW193.out) _) | exact HK.out)) hb); have n4_ := mkA (zbS (by repeat (first | (with_reducible first | exact HB.out | apply lA | apply lN | apply lD | refine lS ?_ GE189.out | refine lS ?_ GE193.out) | exact HB.out)) hb); clear HO0; clear BK189; clear BK193; clear HK; clear HB; have HO0 := n0_; have BK189 := n1_; have BK193 := n2_; have HK := n3_; have HB := n4_; clear n0_ n1_ n2_ n3_ n4_; (try clear hb); (try clear hb2); (try clear hk); (try clear hi)) | ((with_reducible refine gate_dst (N := 6) rfl ?_); (try (refine gate_guard (by rfl) ?_; dsimp only)); refine box_event ?hg (N := 6) ?hd (cs := #[.string (⟨#[]⟩ : ByteArray), .int .i64 0, .int .i64 0]) (t := 173) ?hr ?_; (case hd => rfl); (case hg => rfl); (case hr => first | (go_simp; done) | (go_simp; rfl)); intro gb197 hg w20 hbox hb; have n0_ := mkA (zrB (by (with_reducible repeat (first | apply zrA | apply zrN | apply zrD)); exact HO0.out) hb); have n1_ := mkA (bB (g := gb189) (o := .cells #[.slice none 0 0, .bool false] 95 (0, 0)) (by (with_reducible repeat first | apply bN | apply bD | apply bA); exact BK189.out) hb); have n2_ := mkA (bB (g := gb193) (o := .cells #[.string t190, .int .i64 t191, .int .i64 t192] 173 (0, 0)) (by (with_reducible repeat first | apply bN | apply bD | apply bA); exact BK193.out) hb); have n3_ := mkA (Kept.below (S := (fun k_ => P0_ k_)) (by repeat (first | (with_reducible first | exact HK.out | apply Kept.alloc | apply Kept.drewN | apply Kept.drew | refine Kept.setCell ?_ (.inr GW189.out) _ | refine Kept.setCell ?_ (.inr GW193.out) _) | exact HK.out)) hb); have n4_ := mkA (zbS (by repeat (first | (with_reducible first | exact HB.out | apply lA | apply lN | apply lD | refine lS ?_ GE189.out | refine lS ?_ GE193.out) | exact HB.out)) hb); have n5_ := mkA (hbox); have n6_ := mkA ((by rw [hg]; exact (by first | exact HK.out.1 | exact (show Kept w _ (fun k_ => P0_ k_) from by repeat (first | (with_reducible first | exact HK.out | apply Kept.alloc | apply Kept.drewN | apply Kept.drew | refine Kept.setCell ?_ (.inr GW189.out) _ | refine Kept.setCell ?_ (.inr GW193.out) _) | exact HK.out)).1) : w.heap.size ≤ gb197)); have n7_ := mkA ((by rw [hg]; exact (below_size (by repeat (first | (with_reducible first | exact HB.out | apply lA | apply lN | apply lD | refine lS ?_ GE189.out | refine lS ?_ GE193.out) | exact HB.out))) : w0.heap.size ≤ gb197)); have n8_ := mkA ((by rw [hg]; exact Nat.ne_of_lt (blk_lt (g := gb189) (o := .cells #[.slice none 0 0, .bool false] 95 (0, 0)) (by (with_reducible repeat first | apply bN | apply bD | apply bA); exact BK189.out)) : gb189 ≠ gb197)); have n9_ := mkA ((by rw [hg]; exact Nat.ne_of_gt (blk_lt (g := gb189) (o := .cells #[.slice none 0 0, .bool false] 95 (0, 0)) (by (with_reducible repeat first | apply bN | apply bD | apply bA); exact BK189.out)) : gb197 ≠ gb189)); have n10_ := mkA ((by rw [hg]; exact Nat.ne_of_lt (blk_lt (g := gb193) (o := .cells #[.string t190, .int .i64 t191, .int .i64 t192] 173 (0, 0)) (by (with_reducible repeat first | apply bN | apply bD | apply bA); exact BK193.out)) : gb193 ≠ gb197)); have n11_ := mkA ((by rw [hg]; exact Nat.ne_of_gt (blk_lt (g := gb193) (o := .cells #[.string t190, .int .i64 t191, .int .i64 t192] 173 (0, 0)) (by (with_reducible repeat first | apply bN | apply bD | apply bA); exact BK193.out)) : gb197 ≠ gb193)); clear HO0; clear BK189; clear BK193; clear HK; clear HB; have HO0 := n0_; have BK189 := n1_; have BK193 := n2_; have HK := n3_; have HB := n4_; have BK197 := n5_; have GW197 := n6_; have GE197 := n7_; have NB189_197 := n8_; have NB197_189 := n9_; have NB193_197 := n10_; have NB197_193 := n11_; clear n0_ n1_ n2_ n3_ n4_ n5_ n6_ n7_ n8_ n9_ n10_ n11_; clear hb hbox hg; have hnb21 := NB197_189.out; have hnc21 := NB189_197.out; have hnb22 := NB197_193.out; have hnc22 := NB193_197.out; have hcz23_0 : w20.cell? ⟨gb197, 0, none⟩ = some (.string (⟨#[]⟩ : ByteArray)) := (bC BK197.out 0).trans rfl; have hcz23_1 : w20.cell? ⟨gb197, 1, none⟩ = some (.int .i64 0) := (bC BK197.out 1).trans rfl; have hcz23_2 : w20.cell? ⟨gb197, 2, none⟩ = some (.int .i64 0) := (bC BK197.out 2).trans rfl; have hfz23_0 := bF BK197.out 0; have hfz23_1 := bF BK197.out 1; have hfz23_2 := bF BK197.out 2; have hcz24_0 : w20.cell? ⟨gb193, 0, none⟩ = some (.string t190) := (bC BK193.out 0).trans rfl; have hcz24_1 : w20.cell? ⟨gb193, 1, none⟩ = some (.int .i64 t191) := (bC BK193.out 1).trans rfl; have hcz24_2 : w20.cell? ⟨gb193, 2, none⟩ = some (.int .i64 t192) := (bC BK193.out 2).trans rfl; have hfz24_0 := bF BK193.out 0; have hfz24_1 := bF BK193.out 1; have hfz24_2 := bF BK193.out 2) | ((with_reducible refine gate_callee (f := 140) rfl ?_); refine goesL_ (some 36) rfl rfl Try.func140 (by kernel_rfl) rfl #[.string (a1.extract ((ji9) : Int).toNat a1.size)] rfl (by (try simp only [List.map_toArray, List.map_cons, List.map_nil]); first | done | (simp only [hji9]; rfl) | rfl | (simp only [List.length_drop, List.length_take]; rfl)) ?_; (with_reducible refine (weighlockref01_Unchain.calls k (a1.extract ((ji9) : Int).toNat a1.size) t198 t199 t200 _ A12.out).mono ?_); rintro e w25 ⟨rfl, hb⟩; refine ⟨_, rfl, ?_⟩; have n0_ := mkA (zrB (by (with_reducible repeat (first | apply zrA | apply zrN | apply zrD)); exact (zrM (zrF (p := ⟨gb197, 2, none⟩) (zrF (p := ⟨gb197, 1, none⟩) (zrF (p := ⟨gb197, 0, none⟩) (Kd.R_types HO0.out BK197.out (by decide)) (fun _ hk => hk.2) (.string t194)) (fun _ hk => hk.2) (.int .i64 t195)) (fun _ hk => hk.2) (.int .i64 t196)) (fun _ h_ => h_.1))) hb); have n1_ := mkA (bB (g := gb189) (o := .cells #[.slice none 0 0, .bool false] 95 (0, 0)) (by (with_reducible repeat first | apply bN | apply bD | apply bA); refine bR ?_ NB189_197.out _; (with_reducible repeat first | apply bN | apply bD | apply bA); refine bR ?_ NB189_197.out _; (with_reducible repeat first | apply bN | apply bD | apply bA); refine bR ?_ NB189_197.out _; (with_reducible repeat first | apply bN | apply bD | apply bA); exact BK189.out) hb); have n2_ := mkA (bB (g := gb193) (o := .cells #[.string t190, .int .i64 t191, .int .i64 t192] 173 (0, 0)) (by (with_reducible repeat first | apply bN | apply bD | apply bA); refine bR ?_ NB193_197.out _; (with_reducible repeat first | apply bN | apply bD | apply bA); refine bR ?_ NB193_197.out _; (with_reducible repeat first | apply bN | apply bD | apply bA); refine bR ?_ NB193_197.out _; (with_reducible repeat first | apply bN | apply bD | apply bA); exact BK193.out) hb); have n3_ := mkA (bB (g := gb197) (o := .cells #[.string t194, .int .i64 t195, .int .i64 t196] 173 (0, 0)) (by (with_reducible repeat first | apply bN | apply bD | apply bA); refine bP (cs := #[.string t194, .int .i64 t195, .int .i64 0]) ?_ 2 _ rfl; (with_reducible repeat first | apply bN | apply bD | apply bA); refine bP (cs := #[.string t194, .int .i64 0, .int .i64 0]) ?_ 1 _ rfl; (with_reducible repeat first | apply bN | apply bD | apply bA); refine bP (cs := #[.string (⟨#[]⟩ : ByteArray), .int .i64 0, .int .i64 0]) ?_ 0 _ rfl; (with_reducible repeat first | apply bN | apply bD | apply bA); exact BK197.out) hb); have n4_ := mkA (Kept.below (S := (fun k_ => P0_ k_)) (by repeat (first | (with_reducible first | exact HK.out | apply Kept.alloc | apply Kept.drewN | apply Kept.drew | refine Kept.setCell ?_ (.inr GW189.out) _ | refine Kept.setCell ?_ (.inr GW193.out) _ | refine Kept.setCell ?_ (.inr GW197.out) _) | exact HK.out)) hb); have n5_ := mkA (zbS (by repeat (first | (with_reducible first | exact HB.out | apply lA | apply lN | apply lD | refine lS ?_ GE189.out | refine lS ?_ GE193.out | refine lS ?_ GE197.out) | exact HB.out)) hb); clear HO0; clear BK189; clear BK193; clear BK197; clear HK; clear HB; have HO0 := n0_; have BK189 := n1_; have BK193 := n2_; have BK197 := n3_; have HK := n4_; have HB := n5_; clear n0_ n1_ n2_ n3_ n4_ n5_; (try clear hb); (try clear hb2); (try clear hk); (try clear hi)) | ((with_reducible refine gate_dst (N := 8) rfl ?_); (try (refine gate_guard (by rfl) ?_; dsimp only)); refine box_event ?hg (N := 8) ?hd (cs := #[.int .u64 0, .int .i64 0, .int .i64 0]) (t := 216) ?hr ?_; (case hd => rfl); (case hg => rfl); (case hr => first | (go_simp; done) | (go_simp; rfl)); intro gb201 hg w26 hbox hb; have n0_ := mkA (zrB (by (with_reducible repeat (first | apply zrA | apply zrN | apply zrD)); exact HO0.out) hb); have n1_ := mkA (bB (g := gb189) (o := .cells #[.slice none 0 0, .bool false] 95 (0, 0)) (by (with_reducible repeat first | apply bN | apply bD | apply bA); exact BK189.out) hb); have n2_ := mkA (bB (g := gb193) (o := .cells #[.string t190, .int .i64 t191, .int .i64 t192] 173 (0, 0)) (by (with_reducible repeat first | apply bN | apply bD | apply bA); exact BK193.out) hb); have n3_ := mkA (bB (g := gb197) (o := .cells #[.string t194, .int .i64 t195, .int .i64 t196] 173 (0, 0)) (by (with_reducible repeat first | apply bN | apply bD | apply bA); exact BK197.out) hb); have n4_ := mkA (Kept.below (S := (fun k_ => P0_ k_)) (by repeat (first | (with_reducible first | exact HK.out | apply Kept.alloc | apply Kept.drewN | apply Kept.drew | refine Kept.setCell ?_ (.inr GW189.out) _ | refine Kept.setCell ?_ (.inr GW193.out) _ | refine Kept.setCell ?_ (.inr GW197.out) _) | exact HK.out)) hb); have n5_ := mkA (zbS (by repeat (first | (with_reducible first | exact HB.out | apply lA | apply lN | apply lD | refine lS ?_ GE189.out | refine lS ?_ GE193.out | refine lS ?_ GE197.out) | exact HB.out)) hb); have n6_ := mkA (hbox); have n7_ := mkA ((by rw [hg]; exact (by first | exact HK.out.1 | exact (show Kept w _ (fun k_ => P0_ k_) from by repeat (first | (with_reducible first | exact HK.out | apply Kept.alloc | apply Kept.drewN | apply Kept.drew | refine Kept.setCell ?_ (.inr GW189.out) _ | refine Kept.setCell ?_ (.inr GW193.out) _ | refine Kept.setCell ?_ (.inr GW197.out) _) | exact HK.out)).1) : w.heap.size ≤ gb201)); have n8_ := mkA ((by rw [hg]; exact (below_size (by repeat (first | (with_reducible first | exact HB.out | apply lA | apply lN | apply lD | refine lS ?_ GE189.out | refine lS ?_ GE193.out | refine lS ?_ GE197.out) | exact HB.out))) : w0.heap.size ≤ gb201)); have n9_ := mkA ((by rw [hg]; exact Nat.ne_of_lt (blk_lt (g := gb189) (o := .cells #[.slice none 0 0, .bool false] 95 (0, 0)) (by (with_reducible repeat first | apply bN | apply bD | apply bA); exact BK189.out)) : gb189 ≠ gb201)); have n10_ := mkA ((by rw [hg]; exact Nat.ne_of_gt (blk_lt (g := gb189) (o := .cells #[.slice none 0 0, .bool false] 95 (0, 0)) (by (with_reducible repeat first | apply bN | apply bD | apply bA); exact BK189.out)) : gb201 ≠ gb189)); have n11_ := mkA ((by rw [hg]; exact Nat.ne_of_lt (blk_lt (g := gb193) (o := .cells #[.string t190, .int .i64 t191, .int .i64 t192] 173 (0, 0)) (by (with_reducible repeat first | apply bN | apply bD | apply bA); exact BK193.out)) : gb193 ≠ gb201)); have n12_ := mkA ((by rw [hg]; exact Nat.ne_of_gt (blk_lt (g := gb193) (o := .cells #[.string t190, .int .i64 t191, .int .i64 t192] 173 (0, 0)) (by (with_reducible repeat first | apply bN | apply bD | apply bA); exact BK193.out)) : gb201 ≠ gb193)); have n13_ := mkA ((by rw [hg]; exact Nat.ne_of_lt (blk_lt (g := gb197) (o := .cells #[.string t194, .int .i64 t195, .int .i64 t196] 173 (0, 0)) (by (with_reducible repeat first | apply bN | apply bD | apply bA); exact BK197.out)) : gb197 ≠ gb201)); have n14_ := mkA ((by rw [hg]; exact Nat.ne_of_gt (blk_lt (g := gb197) (o := .cells #[.string t194, .int .i64 t195, .int .i64 t196] 173 (0, 0)) (by (with_reducible repeat first | apply bN | apply bD | apply bA); exact BK197.out)) : gb201 ≠ gb197)); clear HO0; clear BK189; clear BK193; clear BK197; clear HK; clear HB; have HO0 := n0_; have BK189 := n1_; have BK193 := n2_; have BK197 := n3_; have HK := n4_; have HB := n5_; have BK201 := n6_; have GW201 := n7_; have GE201 := n8_; have NB189_201 := n9_; have NB201_189 := n10_; have NB193_201 := n11_; have NB201_193 := n12_; have NB197_201 := n13_; have NB201_197 := n14_; clear n0_ n1_ n2_ n3_ n4_ n5_ n6_ n7_ n8_ n9_ n10_ n11_ n12_ n13_ n14_; clear hb hbox hg; have hnb27 := NB201_189.out; have hnc27 := NB189_201.out; have hnb28 := NB201_193.out; have hnc28 := NB193_201.out; have hnb29 := NB201_197.out; have hnc29 := NB197_201.out; have hcz30_0 : w26.cell? ⟨gb201, 0, none⟩ = some (.int .u64 0) := (bC BK201.out 0).trans rfl; have hcz30_1 : w26.cell? ⟨gb201, 1, none⟩ = some (.int .i64 0) := (bC BK201.out 1).trans rfl; have hcz30_2 : w26.cell? ⟨gb201, 2, none⟩ = some (.int .i64 0) := (bC BK201.out 2).trans rfl; have hfz30_0 := bF BK201.out 0; have hfz30_1 := bF BK201.out 1; have hfz30_2 := bF BK201.out 2))
       (try simp only [Act.put, zsI, zs0, zs1])
       go_cut [44] (fun v44 wc => ∃ (kq : Nat) (x44_12 : Bool), v44 = .bool x44_12 ∧ Aside0 (weighlockref24_commit.j0 kq l0 a1 ji9 x44_12 t190 t191 t192 t194 t195 t196 t198 t199 t200 = some (r1, r2)) ∧ Aside0 (kq ≤ k) ∧ Aside0 (Kd.R k166 166 wc w0.heap.size (fun k_ => (P0_ k_ ∨ w.heap.size ≤ k_)) u9000_ l0) ∧ Aside0 (wc.heap[gb189]? = some (.cells #[(.slice none 0 0), .bool false] 95 (0, 0))) ∧ Aside0 (wc.heap[gb193]? = some (.cells #[.string t190, .int .i64 t191, .int .i64 t192] 173 (0, 0))) ∧ Aside0 (wc.heap[gb197]? = some (.cells #[.string t194, .int .i64 t195, .int .i64 t196] 173 (0, 0))) ∧ Aside0 (wc.heap[gb201]? = some (.cells #[.int .u64 t198, .int .i64 t199, .int .i64 t200] 216 (0, 0))) ∧ Aside0 (Kept w wc (fun k_ => P0_ k_)) ∧ Aside0 (Below w0.heap.size w0 wc))
       case first =>
        have H := HC13.out
        clear HC13
        by_cases c31 : t200 = 0
        ·rw [if_pos c31] at H
         have c31b0 : (t200 == 0) = true := beq_iff_eq.mpr c31
         have c31b1 : (t200 != 0) = false := bne_eq_false_iff_eq.mpr c31
         clear c31
         (first | rw [c31b0] | (simp only [i64_w, i32_w]; rw [c31b0]) | skip)
         have H' := mkA H
         clear H
         have hnb32 := NB201_189.out
         have hnc32 := NB189_201.out
         have hnb33 := NB201_193.out
         have hnc33 := NB193_201.out
         have hnb34 := NB201_197.out
         have hnc34 := NB197_201.out
         have hcz35_0 : w26.cell? ⟨gb201, 0, none⟩ = some (.int .u64 0) := (bC BK201.out 0).trans rfl
         have hcz35_1 : w26.cell? ⟨gb201, 1, none⟩ = some (.int .i64 0) := (bC BK201.out 1).trans rfl
         have hcz35_2 : w26.cell? ⟨gb201, 2, none⟩ = some (.int .i64 0) := (bC BK201.out 2).trans rfl
         have hfz35_0 := bF BK201.out 0
         have hfz35_1 := bF BK201.out 1
         have hfz35_2 := bF BK201.out 2
         go_wp2
         go_meet
         case rel => exact ⟨_, (decide (t198 > 3)), (by first | rfl | (simp; done) | (simp [*]; done)), H', ⟨by first | omega | exact Nat.le_refl _⟩, ⟨by (with_reducible repeat (first | apply zrA | apply zrN | apply zrD)); exact zrM (zrF (p := ⟨gb201, 2, none⟩) (zrF (p := ⟨gb201, 1, none⟩) (zrF (p := ⟨gb201, 0, none⟩) (Kd.R_types HO0.out BK201.out (by decide)) (fun _ hk => hk.2) (.int .u64 t198)) (fun _ hk => hk.2) (.int .i64 t199)) (fun _ hk => hk.2) (.int .i64 t200)) (fun _ hk => hk.1)⟩, ⟨by (with_reducible repeat first | apply bN | apply bD | apply bA); refine bR ?_ NB189_201.out _; (with_reducible repeat first | apply bN | apply bD | apply bA); refine bR ?_ NB189_201.out _; (with_reducible repeat first | apply bN | apply bD | apply bA); refine bR ?_ NB189_201.out _; (with_reducible repeat first | apply bN | apply bD | apply bA); exact BK189.out⟩, ⟨by (with_reducible repeat first | apply bN | apply bD | apply bA); refine bR ?_ NB193_201.out _; (with_reducible repeat first | apply bN | apply bD | apply bA); refine bR ?_ NB193_201.out _; (with_reducible repeat first | apply bN | apply bD | apply bA); refine bR ?_ NB193_201.out _; (with_reducible repeat first | apply bN | apply bD | apply bA); exact BK193.out⟩, ⟨by (with_reducible repeat first | apply bN | apply bD | apply bA); refine bR ?_ NB197_201.out _; (with_reducible repeat first | apply bN | apply bD | apply bA); refine bR ?_ NB197_201.out _; (with_reducible repeat first | apply bN | apply bD | apply bA); refine bR ?_ NB197_201.out _; (with_reducible repeat first | apply bN | apply bD | apply bA); exact BK197.out⟩, ⟨by (with_reducible repeat first | apply bN | apply bD | apply bA); refine bP (cs := #[.int .u64 t198, .int .i64 t199, .int .i64 0]) ?_ 2 _ rfl; (with_reducible repeat first | apply bN | apply bD | apply bA); refine bP (cs := #[.int .u64 t198, .int .i64 0, .int .i64 0]) ?_ 1 _ rfl; (with_reducible repeat first | apply bN | apply bD | apply bA); refine bP (cs := #[.int .u64 0, .int .i64 0, .int .i64 0]) ?_ 0 _ rfl; (with_reducible repeat first | apply bN | apply bD | apply bA); exact BK201.out⟩, ⟨by repeat (first | (with_reducible first | exact HK.out | apply Kept.alloc | apply Kept.drewN | apply Kept.drew | refine Kept.setCell ?_ (.inr GW189.out) _ | refine Kept.setCell ?_ (.inr GW193.out) _ | refine Kept.setCell ?_ (.inr GW197.out) _ | refine Kept.setCell ?_ (.inr GW201.out) _) | exact HK.out)⟩, ⟨by repeat (first | (with_reducible first | exact HB.out | apply lA | apply lN | apply lD | refine lS ?_ GE189.out | refine lS ?_ GE193.out | refine lS ?_ GE197.out | refine lS ?_ GE201.out) | exact HB.out)⟩⟩
        ·rw [if_neg c31] at H
         have c31b0 : (t200 == 0) = false := beq_eq_false_iff_ne.mpr c31
         have c31b1 : (t200 != 0) = true := bne_iff_ne.mpr c31
         (first | rw [c31b0] | (simp only [i64_w, i32_w]; rw [c31b0]) | skip)
         have H' := mkA H
         clear H
         have hnb36 := NB201_189.out
         have hnc36 := NB189_201.out
         have hnb37 := NB201_193.out
         have hnc37 := NB193_201.out
         have hnb38 := NB201_197.out
         have hnc38 := NB197_201.out
         have hcz39_0 : w26.cell? ⟨gb201, 0, none⟩ = some (.int .u64 0) := (bC BK201.out 0).trans rfl
         have hcz39_1 : w26.cell? ⟨gb201, 1, none⟩ = some (.int .i64 0) := (bC BK201.out 1).trans rfl
         have hcz39_2 : w26.cell? ⟨gb201, 2, none⟩ = some (.int .i64 0) := (bC BK201.out 2).trans rfl
         have hfz39_0 := bF BK201.out 0
         have hfz39_1 := bF BK201.out 1
         have hfz39_2 := bF BK201.out 2
         go_wp2
         go_meet
         case rel => exact ⟨_, (true), (by first | rfl | (simp; done) | (simp [*]; done)), H', ⟨by first | omega | exact Nat.le_refl _⟩, ⟨by (with_reducible repeat (first | apply zrA | apply zrN | apply zrD)); exact zrM (zrF (p := ⟨gb201, 2, none⟩) (zrF (p := ⟨gb201, 1, none⟩) (zrF (p := ⟨gb201, 0, none⟩) (Kd.R_types HO0.out BK201.out (by decide)) (fun _ hk => hk.2) (.int .u64 t198)) (fun _ hk => hk.2) (.int .i64 t199)) (fun _ hk => hk.2) (.int .i64 t200)) (fun _ hk => hk.1)⟩, ⟨by (with_reducible repeat first | apply bN | apply bD | apply bA); refine bR ?_ NB189_201.out _; (with_reducible repeat first | apply bN | apply bD | apply bA); refine bR ?_ NB189_201.out _; (with_reducible repeat first | apply bN | apply bD | apply bA); refine bR ?_ NB189_201.out _; (with_reducible repeat first | apply bN | apply bD | apply bA); exact BK189.out⟩, ⟨by (with_reducible repeat first | apply bN | apply bD | apply bA); refine bR ?_ NB193_201.out _; (with_reducible repeat first | apply bN | apply bD | apply bA); refine bR ?_ NB193_201.out _; (with_reducible repeat first | apply bN | apply bD | apply bA); refine bR ?_ NB193_201.out _; (with_reducible repeat first | apply bN | apply bD | apply bA); exact BK193.out⟩, ⟨by (with_reducible repeat first | apply bN | apply bD | apply bA); refine bR ?_ NB197_201.out _; (with_reducible repeat first | apply bN | apply bD | apply bA); refine bR ?_ NB197_201.out _; (with_reducible repeat first | apply bN | apply bD | apply bA); refine bR ?_ NB197_201.out _; (with_reducible repeat first | apply bN | apply bD | apply bA); exact BK197.out⟩, ⟨by (with_reducible repeat first | apply bN | apply bD | apply bA); refine bP (cs := #[.int .u64 t198, .int .i64 t199, .int .i64 0]) ?_ 2 _ rfl; (with_reducible repeat first | apply bN | apply bD | apply bA); refine bP (cs := #[.int .u64 t198, .int .i64 0, .int .i64 0]) ?_ 1 _ rfl; (with_reducible repeat first | apply bN | apply bD | apply bA); refine bP (cs := #[.int .u64 0, .int .i64 0, .int .i64 0]) ?_ 0 _ rfl; (with_reducible repeat first | apply bN | apply bD | apply bA); exact BK201.out⟩, ⟨by repeat (first | (with_reducible first | exact HK.out | apply Kept.alloc | apply Kept.drewN | apply Kept.drew | refine Kept.setCell ?_ (.inr GW189.out) _ | refine Kept.setCell ?_ (.inr GW193.out) _ | refine Kept.setCell ?_ (.inr GW197.out) _ | refine Kept.setCell ?_ (.inr GW201.out) _) | exact HK.out)⟩, ⟨by repeat (first | (with_reducible first | exact HB.out | apply lA | apply lN | apply lD | refine lS ?_ GE189.out | refine lS ?_ GE193.out | refine lS ?_ GE197.out | refine lS ?_ GE201.out) | exact HB.out)⟩⟩
       case rest =>
        clear HC13
        try clear c1
        try clear c2
        try clear p2
        try clear c3
        try clear c4
        try clear c4b0
        try clear c4b1
        try clear c5
        try clear c5b0
        try clear c5b1
        try clear c6
        try clear c6b0
        try clear c6b1
        try clear p6
        try clear c8
        try clear c8b0
        try clear c8b1
        try clear c10
        try clear c10b0
        try clear c10b1
        try clear c11
        try clear c11b0
        try clear c11b1
        try clear c14
        try clear c17
        try clear c21
        try clear c22
        try clear c27
        try clear c28
        try clear c29
        try clear c31
        try clear c31b0
        try clear c31b1
        try clear c32
        try clear c33
        try clear c34
        try clear c36
        try clear c37
        try clear c38
        try clear hcz18_0
        try clear hcz18_1
        try clear hcz18_2
        try clear hcz23_0
        try clear hcz23_1
        try clear hcz23_2
        try clear hcz24_0
        try clear hcz24_1
        try clear hcz24_2
        try clear hcz30_0
        try clear hcz30_1
        try clear hcz30_2
        try clear hcz35_0
        try clear hcz35_1
        try clear hcz35_2
        try clear hcz39_0
        try clear hcz39_1
        try clear hcz39_2
        try clear hfz18_0
        try clear hfz18_1
        try clear hfz18_2
        try clear hfz23_0
        try clear hfz23_1
        try clear hfz23_2
        try clear hfz24_0
        try clear hfz24_1
        try clear hfz24_2
        try clear hfz30_0
        try clear hfz30_1
        try clear hfz30_2
        try clear hfz35_0
        try clear hfz35_1
        try clear hfz35_2
        try clear hfz39_0
        try clear hfz39_1
        try clear hfz39_2
        obtain ⟨kq, x44_12, rfl, HA, HJ12, HO_0, BK189, BK193, BK197, BK201, HK, HB⟩ := hcut
        cases kq with
        | zero => exact absurd HA.out (by simp [weighlockref24_commit.j0])
        | succ kj12 =>
         have H := HA.out
         clear HA
         simp only [weighlockref24_commit.j0] at H
         by_cases c40 : x44_12 = true
         ·subst c40
          have H1 : (some (l0, false)) = some (r1, r2) := by rw [if_pos rfl] at H; exact H
          clear H
          have H := H1
          clear H1
          simp only [Option.some.injEq, Prod.mk.injEq] at H
          obtain ⟨rfl, rfl⟩ := H
          obtain ⟨Ao41, co41, eo41⟩ := Kd.R_slice HO_0.out
          subst eo41
          have hnb42 := NB189_193.out
          have hnc42 := NB193_189.out
          have hnb43 := NB189_197.out
          have hnc43 := NB197_189.out
          have hnb44 := NB189_201.out
          have hnc44 := NB201_189.out
          have hcz45_0 : wc.cell? ⟨gb189, 0, none⟩ = some (.slice none 0 0) := (bC BK189.out 0).trans rfl
          have hcz45_1 : wc.cell? ⟨gb189, 1, none⟩ = some (.bool false) := (bC BK189.out 1).trans rfl
          have hfz45_0 := bF BK189.out 0
          have hfz45_1 := bF BK189.out 1
          go_wp2
          refine bodyPost_ret (results_cell_row rfl _ _ gb189 95 #[.slice Ao41 l0.length co41, .bool false] (0, 0) _ rfl (by (with_reducible repeat first | apply bN | apply bD | apply bA); refine bP (cs := #[.slice Ao41 l0.length co41, .bool false]) ?_ 1 _ rfl; (with_reducible repeat first | apply bN | apply bD | apply bA); refine bP (cs := #[.slice none 0 0, .bool false]) ?_ 0 _ rfl; (with_reducible repeat first | apply bN | apply bD | apply bA); exact BK189.out) Try.underlying95 rfl (by kernel_rfl)) rfl ?_
          exact ⟨_, by first | rfl | (simp [errW_none, errW_some] <;> rfl) | (simp only [← hji9]; first | rfl | (simp [errW_none, errW_some] <;> rfl)) | (simp [*, errW_none, errW_some] <;> rfl), by (with_reducible repeat (first | apply zrA | apply zrN | apply zrD)); exact zrM (zrF (p := ⟨gb189, 1, none⟩) (zrF (p := ⟨gb189, 0, none⟩) (Kd.R_types HO_0.out BK189.out (by decide)) (fun _ hk => hk.2) (.slice Ao41 l0.length co41)) (fun _ hk => hk.2) (.bool false)) (fun _ hk => hk.1), by repeat (first | (with_reducible first | exact HB.out | apply lA | apply lN | apply lD | refine lS ?_ GE189.out | refine lS ?_ GE193.out | refine lS ?_ GE197.out | refine lS ?_ GE201.out) | exact HB.out), by repeat (first | (with_reducible first | exact HK.out | apply Kept.alloc | apply Kept.drewN | apply Kept.drew | refine Kept.setCell ?_ (.inr GW189.out) _ | refine Kept.setCell ?_ (.inr GW193.out) _ | refine Kept.setCell ?_ (.inr GW197.out) _ | refine Kept.setCell ?_ (.inr GW201.out) _) | exact HK.out)⟩
         ·replace c40 := Bool.eq_false_iff.mpr c40
          subst c40
          have H1 : (if 0 ≤ (wrap64 (ji9 + t199)) then (if (wrap64 (ji9 + t199)) ≤ (a1.size : Int) then ((weighlockref01_Unchain.f kj12 (a1.extract ((wrap64 (ji9 + t199)) : Int).toNat a1.size)).bind fun bt202 => (if bt202.2.2 = 0 then (if bt202.1 > 1048577 then (weighlockref24_commit.j1 kj12 l0 true t190 t191 t192 t194 t195 t196 t198 t199 t200 bt202.1 bt202.2.1 bt202.2.2) else (weighlockref24_commit.j1 kj12 l0 ((wrap64 ((wrap64 (ji9 + t199)) + bt202.2.1)) != (a1.size : Int)) t190 t191 t192 t194 t195 t196 t198 t199 t200 bt202.1 bt202.2.1 bt202.2.2)) else (weighlockref24_commit.j1 kj12 l0 true t190 t191 t192 t194 t195 t196 t198 t199 t200 bt202.1 bt202.2.1 bt202.2.2))) else (none)) else (none)) = some (r1, r2) := by rw [if_neg (show ¬ (false = true) by decide)] at H; exact H
          clear H
          have H := H1
          clear H1
          obtain ⟨ji46, hji46⟩ : ∃ j_ : Int, (wrap64 (ji9 + t199)) = j_ := ⟨_, rfl⟩
          replace H : (if 0 ≤ (ji46) then (if (ji46) ≤ (a1.size : Int) then ((weighlockref01_Unchain.f kj12 (a1.extract ((ji46) : Int).toNat a1.size)).bind fun bt202 => (if bt202.2.2 = 0 then (if bt202.1 > 1048577 then (weighlockref24_commit.j1 kj12 l0 true t190 t191 t192 t194 t195 t196 t198 t199 t200 bt202.1 bt202.2.1 bt202.2.2) else (weighlockref24_commit.j1 kj12 l0 ((wrap64 ((ji46) + bt202.2.1)) != (a1.size : Int)) t190 t191 t192 t194 t195 t196 t198 t199 t200 bt202.1 bt202.2.1 bt202.2.2)) else (weighlockref24_commit.j1 kj12 l0 true t190 t191 t192 t194 t195 t196 t198 t199 t200 bt202.1 bt202.2.1 bt202.2.2))) else (none)) else (none)) = some (r1, r2) := by first | (rw [hji46] at H; exact H) | (simp only [hji46] at H ⊢; exact H)
          have hji46w : (IntKind.i64.wrap (ji9 + t199)) = ji46 := (i64_w _).trans hji46
          by_cases c47 : 0 ≤ (ji46)
          ·rw [if_pos c47] at H
           have c47b0 := eq_true c47
           have c47b1 : decide (0 ≤ (ji46)) = true := decide_eq_true c47
           clear c47
           by_cases c48 : (ji46) ≤ (a1.size : Int)
           ·rw [if_pos c48] at H
            have c48b0 := eq_true c48
            have c48b1 : decide ((ji46) ≤ (a1.size : Int)) = true := decide_eq_true c48
            clear c48
            replace H := Option.bind_eq_some_iff.mp H
            obtain ⟨⟨t202, t203, t204⟩, A490, H⟩ := H
            replace H : (if t204 = 0 then (if t202 > 1048577 then (weighlockref24_commit.j1 kj12 l0 true t190 t191 t192 t194 t195 t196 t198 t199 t200 t202 t203 t204) else (weighlockref24_commit.j1 kj12 l0 ((wrap64 ((ji46) + t203)) != (a1.size : Int)) t190 t191 t192 t194 t195 t196 t198 t199 t200 t202 t203 t204)) else (weighlockref24_commit.j1 kj12 l0 true t190 t191 t192 t194 t195 t196 t198 t199 t200 t202 t203 t204)) = some (r1, r2) := H
            have A49 := mkA A490
            clear A490
            have HC50 := mkA H
            clear H
            have hnb51 := NB201_189.out
            have hnc51 := NB189_201.out
            have hnb52 := NB201_193.out
            have hnc52 := NB193_201.out
            have hnb53 := NB201_197.out
            have hnc53 := NB197_201.out
            have hcz54_0 : wc.cell? ⟨gb201, 0, none⟩ = some (.int .u64 t198) := (bC BK201.out 0).trans rfl
            have hcz54_1 : wc.cell? ⟨gb201, 1, none⟩ = some (.int .i64 t199) := (bC BK201.out 1).trans rfl
            have hcz54_2 : wc.cell? ⟨gb201, 2, none⟩ = some (.int .i64 t200) := (bC BK201.out 2).trans rfl
            have hfz54_0 := bF BK201.out 0
            have hfz54_1 := bF BK201.out 1
            have hfz54_2 := bF BK201.out 2
            go_upto_region 12 with (first | ((with_reducible refine gate_callee (f := 140) rfl ?_); refine goesL_ (some 53) rfl rfl Try.func140 (by kernel_rfl) rfl #[.string (a1.extract ((ji46) : Int).toNat a1.size)] rfl (by (try simp only [List.map_toArray, List.map_cons, List.map_nil]); first | done | (simp only [hji46]; rfl) | rfl | (simp only [List.length_drop, List.length_take]; rfl)) ?_; (with_reducible refine (weighlockref01_Unchain.calls kj12 (a1.extract ((ji46) : Int).toNat a1.size) t202 t203 t204 _ A49.out).mono ?_); rintro e w55 ⟨rfl, hb⟩; refine ⟨_, rfl, ?_⟩; have n0_ := mkA (zrB (by (with_reducible repeat (first | apply zrA | apply zrN | apply zrD)); exact HO_0.out) hb); have n1_ := mkA (bB (g := gb189) (o := .cells #[.slice none 0 0, .bool false] 95 (0, 0)) (by (with_reducible repeat first | apply bN | apply bD | apply bA); exact BK189.out) hb); have n2_ := mkA (bB (g := gb193) (o := .cells #[.string t190, .int .i64 t191, .int .i64 t192] 173 (0, 0)) (by (with_reducible repeat first | apply bN | apply bD | apply bA); exact BK193.out) hb); have n3_ := mkA (bB (g := gb197) (o := .cells #[.string t194, .int .i64 t195, .int .i64 t196] 173 (0, 0)) (by (with_reducible repeat first | apply bN | apply bD | apply bA); exact BK197.out) hb); have n4_ := mkA (bB (g := gb201) (o := .cells #[.int .u64 t198, .int .i64 t199, .int .i64 t200] 216 (0, 0)) (by (with_reducible repeat first | apply bN | apply bD | apply bA); exact BK201.out) hb); have n5_ := mkA (Kept.below (S := (fun k_ => P0_ k_)) (by repeat (first | (with_reducible first | exact HK.out | apply Kept.alloc | apply Kept.drewN | apply Kept.drew | refine Kept.setCell ?_ (.inr GW189.out) _ | refine Kept.setCell ?_ (.inr GW193.out) _ | refine Kept.setCell ?_ (.inr GW197.out) _ | refine Kept.setCell ?_ (.inr GW201.out) _) | exact HK.out)) hb); have n6_ := mkA (zbS (by repeat (first | (with_reducible first | exact HB.out | apply lA | apply lN | apply lD | refine lS ?_ GE189.out | refine lS ?_ GE193.out | refine lS ?_ GE197.out | refine lS ?_ GE201.out) | exact HB.out)) hb); clear HO_0; clear BK189; clear BK193; clear BK197; clear BK201; clear HK; clear HB; have HO_0 := n0_; have BK189 := n1_; have BK193 := n2_; have BK197 := n3_; have BK201 := n4_; have HK := n5_; have HB := n6_; clear n0_ n1_ n2_ n3_ n4_ n5_ n6_; (try clear hb); (try clear hb2); (try clear hk); (try clear hi)) | ((with_reducible refine gate_dst (N := 9) rfl ?_); (try (refine gate_guard (by rfl) ?_; dsimp only)); refine box_event ?hg (N := 9) ?hd (cs := #[.int .u64 0, .int .i64 0, .int .i64 0]) (t := 216) ?hr ?_; (case hd => rfl); (case hg => rfl); (case hr => first | (go_simp; done) | (go_simp; rfl)); intro gb205 hg w56 hbox hb; have n0_ := mkA (zrB (by (with_reducible repeat (first | apply zrA | apply zrN | apply zrD)); exact HO_0.out) hb); have n1_ := mkA (bB (g := gb189) (o := .cells #[.slice none 0 0, .bool false] 95 (0, 0)) (by (with_reducible repeat first | apply bN | apply bD | apply bA); exact BK189.out) hb); have n2_ := mkA (bB (g := gb193) (o := .cells #[.string t190, .int .i64 t191, .int .i64 t192] 173 (0, 0)) (by (with_reducible repeat first | apply bN | apply bD | apply bA); exact BK193.out) hb); have n3_ := mkA (bB (g := gb197) (o := .cells #[.string t194, .int .i64 t195, .int .i64 t196] 173 (0, 0)) (by (with_reducible repeat first | apply bN | apply bD | apply bA); exact BK197.out) hb); have n4_ := mkA (bB (g := gb201) (o := .cells #[.int .u64 t198, .int .i64 t199, .int .i64 t200] 216 (0, 0)) (by (with_reducible repeat first | apply bN | apply bD | apply bA); exact BK201.out) hb); have n5_ := mkA (Kept.below (S := (fun k_ => P0_ k_)) (by repeat (first | (with_reducible first | exact HK.out | apply Kept.alloc | apply Kept.drewN | apply Kept.drew | refine Kept.setCell ?_ (.inr GW189.out) _ | refine Kept.setCell ?_ (.inr GW193.out) _ | refine Kept.setCell ?_ (.inr GW197.out) _ | refine Kept.setCell ?_ (.inr GW201.out) _) | exact HK.out)) hb); have n6_ := mkA (zbS (by repeat (first | (with_reducible first | exact HB.out | apply lA | apply lN | apply lD | refine lS ?_ GE189.out | refine lS ?_ GE193.out | refine lS ?_ GE197.out | refine lS ?_ GE201.out) | exact HB.out)) hb); have n7_ := mkA (hbox); have n8_ := mkA ((by rw [hg]; exact (by first | exact HK.out.1 | exact (show Kept w _ (fun k_ => P0_ k_) from by repeat (first | (with_reducible first | exact HK.out | apply Kept.alloc | apply Kept.drewN | apply Kept.drew | refine Kept.setCell ?_ (.inr GW189.out) _ | refine Kept.setCell ?_ (.inr GW193.out) _ | refine Kept.setCell ?_ (.inr GW197.out) _ | refine Kept.setCell ?_ (.inr GW201.out) _) | exact HK.out)).1) : w.heap.size ≤ gb205)); have n9_ := mkA ((by rw [hg]; exact (below_size (by repeat (first | (with_reducible first | exact HB.out | apply lA | apply lN | apply lD | refine lS ?_ GE189.out | refine lS ?_ GE193.out | refine lS ?_ GE197.out | refine lS ?_ GE201.out) | exact HB.out))) : w0.heap.size ≤ gb205)); have n10_ := mkA ((by rw [hg]; exact Nat.ne_of_lt (blk_lt (g := gb189) (o := .cells #[.slice none 0 0, .bool false] 95 (0, 0)) (by (with_reducible repeat first | apply bN | apply bD | apply bA); exact BK189.out)) : gb189 ≠ gb205)); have n11_ := mkA ((by rw [hg]; exact Nat.ne_of_gt (blk_lt (g := gb189) (o := .cells #[.slice none 0 0, .bool false] 95 (0, 0)) (by (with_reducible repeat first | apply bN | apply bD | apply bA); exact BK189.out)) : gb205 ≠ gb189)); have n12_ := mkA ((by rw [hg]; exact Nat.ne_of_lt (blk_lt (g := gb193) (o := .cells #[.string t190, .int .i64 t191, .int .i64 t192] 173 (0, 0)) (by (with_reducible repeat first | apply bN | apply bD | apply bA); exact BK193.out)) : gb193 ≠ gb205)); have n13_ := mkA ((by rw [hg]; exact Nat.ne_of_gt (blk_lt (g := gb193) (o := .cells #[.string t190, .int .i64 t191, .int .i64 t192] 173 (0, 0)) (by (with_reducible repeat first | apply bN | apply bD | apply bA); exact BK193.out)) : gb205 ≠ gb193)); have n14_ := mkA ((by rw [hg]; exact Nat.ne_of_lt (blk_lt (g := gb197) (o := .cells #[.string t194, .int .i64 t195, .int .i64 t196] 173 (0, 0)) (by (with_reducible repeat first | apply bN | apply bD | apply bA); exact BK197.out)) : gb197 ≠ gb205)); have n15_ := mkA ((by rw [hg]; exact Nat.ne_of_gt (blk_lt (g := gb197) (o := .cells #[.string t194, .int .i64 t195, .int .i64 t196] 173 (0, 0)) (by (with_reducible repeat first | apply bN | apply bD | apply bA); exact BK197.out)) : gb205 ≠ gb197)); have n16_ := mkA ((by rw [hg]; exact Nat.ne_of_lt (blk_lt (g := gb201) (o := .cells #[.int .u64 t198, .int .i64 t199, .int .i64 t200] 216 (0, 0)) (by (with_reducible repeat first | apply bN | apply bD | apply bA); exact BK201.out)) : gb201 ≠ gb205)); have n17_ := mkA ((by rw [hg]; exact Nat.ne_of_gt (blk_lt (g := gb201) (o := .cells #[.int .u64 t198, .int .i64 t199, .int .i64 t200] 216 (0, 0)) (by (with_reducible repeat first | apply bN | apply bD | apply bA); exact BK201.out)) : gb205 ≠ gb201)); clear HO_0; clear BK189; clear BK193; clear BK197; clear BK201; clear HK; clear HB; have HO_0 := n0_; have BK189 := n1_; have BK193 := n2_; have BK197 := n3_; have BK201 := n4_; have HK := n5_; have HB := n6_; have BK205 := n7_; have GW205 := n8_; have GE205 := n9_; have NB189_205 := n10_; have NB205_189 := n11_; have NB193_205 := n12_; have NB205_193 := n13_; have NB197_205 := n14_; have NB205_197 := n15_; have NB201_205 := n16_; have NB205_201 := n17_; clear n0_ n1_ n2_ n3_ n4_ n5_ n6_ n7_ n8_ n9_ n10_ n11_ n12_ n13_ n14_ n15_ n16_ n17_; clear hb hbox hg; have hnb57 := NB205_189.out; have hnc57 := NB189_205.out; have hnb58 := NB205_193.out; have hnc58 := NB193_205.out; have hnb59 := NB205_197.out; have hnc59 := NB197_205.out; have hnb60 := NB205_201.out; have hnc60 := NB201_205.out; have hcz61_0 : w56.cell? ⟨gb205, 0, none⟩ = some (.int .u64 0) := (bC BK205.out 0).trans rfl; have hcz61_1 : w56.cell? ⟨gb205, 1, none⟩ = some (.int .i64 0) := (bC BK205.out 1).trans rfl; have hcz61_2 : w56.cell? ⟨gb205, 2, none⟩ = some (.int .i64 0) := (bC BK205.out 2).trans rfl; have hfz61_0 := bF BK205.out 0; have hfz61_1 := bF BK205.out 1; have hfz61_2 := bF BK205.out 2))
            (try simp only [Act.put, zsI, zs0, zs1])
            go_cut [73] (fun v73 wc => ∃ (kq : Nat) (x73_49 : Bool), v73 = .bool x73_49 ∧ Aside0 (weighlockref24_commit.j1 kq l0 x73_49 t190 t191 t192 t194 t195 t196 t198 t199 t200 t202 t203 t204 = some (r1, r2)) ∧ Aside0 (kq ≤ kj12) ∧ Aside0 (Kd.R k166 166 wc w0.heap.size (fun k_ => (P0_ k_ ∨ w.heap.size ≤ k_)) u9000_ l0) ∧ Aside0 (wc.heap[gb189]? = some (.cells #[(.slice none 0 0), .bool false] 95 (0, 0))) ∧ Aside0 (wc.heap[gb193]? = some (.cells #[.string t190, .int .i64 t191, .int .i64 t192] 173 (0, 0))) ∧ Aside0 (wc.heap[gb197]? = some (.cells #[.string t194, .int .i64 t195, .int .i64 t196] 173 (0, 0))) ∧ Aside0 (wc.heap[gb201]? = some (.cells #[.int .u64 t198, .int .i64 t199, .int .i64 t200] 216 (0, 0))) ∧ Aside0 (wc.heap[gb205]? = some (.cells #[.int .u64 t202, .int .i64 t203, .int .i64 t204] 216 (0, 0))) ∧ Aside0 (Kept w wc (fun k_ => P0_ k_)) ∧ Aside0 (Below w0.heap.size w0 wc))
            case first =>
             have H := HC50.out
             clear HC50
             by_cases c62 : t204 = 0
             ·rw [if_pos c62] at H
              have c62b0 : (t204 == 0) = true := beq_iff_eq.mpr c62
              have c62b1 : (t204 != 0) = false := bne_eq_false_iff_eq.mpr c62
              clear c62
              (first | rw [c62b0] | (simp only [i64_w, i32_w]; rw [c62b0]) | skip)
              by_cases c63 : t202 > 1048577
              ·rw [if_pos c63] at H
               have c63b0 : decide (1048577 < t202) = true := decide_eq_true c63
               clear c63
               have H' := mkA H
               clear H
               have hnb64 := NB205_189.out
               have hnc64 := NB189_205.out
               have hnb65 := NB205_193.out
               have hnc65 := NB193_205.out
               have hnb66 := NB205_197.out
               have hnc66 := NB197_205.out
               have hnb67 := NB205_201.out
               have hnc67 := NB201_205.out
               have hcz68_0 : w56.cell? ⟨gb205, 0, none⟩ = some (.int .u64 0) := (bC BK205.out 0).trans rfl
               have hcz68_1 : w56.cell? ⟨gb205, 1, none⟩ = some (.int .i64 0) := (bC BK205.out 1).trans rfl
               have hcz68_2 : w56.cell? ⟨gb205, 2, none⟩ = some (.int .i64 0) := (bC BK205.out 2).trans rfl
               have hfz68_0 := bF BK205.out 0
               have hfz68_1 := bF BK205.out 1
               have hfz68_2 := bF BK205.out 2
               go_wp2
               go_meet
               case rel => exact ⟨_, (true), (by first | rfl | (simp; done) | (simp [*]; done)), H', ⟨by have := HJ12.out; first | omega | exact Nat.le_refl _⟩, ⟨by (with_reducible repeat (first | apply zrA | apply zrN | apply zrD)); exact zrM (zrF (p := ⟨gb205, 2, none⟩) (zrF (p := ⟨gb205, 1, none⟩) (zrF (p := ⟨gb205, 0, none⟩) (Kd.R_types HO_0.out BK205.out (by decide)) (fun _ hk => hk.2) (.int .u64 t202)) (fun _ hk => hk.2) (.int .i64 t203)) (fun _ hk => hk.2) (.int .i64 t204)) (fun _ hk => hk.1)⟩, ⟨by (with_reducible repeat first | apply bN | apply bD | apply bA); refine bR ?_ NB189_205.out _; (with_reducible repeat first | apply bN | apply bD | apply bA); refine bR ?_ NB189_205.out _; (with_reducible repeat first | apply bN | apply bD | apply bA); refine bR ?_ NB189_205.out _; (with_reducible repeat first | apply bN | apply bD | apply bA); exact BK189.out⟩, ⟨by (with_reducible repeat first | apply bN | apply bD | apply bA); refine bR ?_ NB193_205.out _; (with_reducible repeat first | apply bN | apply bD | apply bA); refine bR ?_ NB193_205.out _; (with_reducible repeat first | apply bN | apply bD | apply bA); refine bR ?_ NB193_205.out _; (with_reducible repeat first | apply bN | apply bD | apply bA); exact BK193.out⟩, ⟨by (with_reducible repeat first | apply bN | apply bD | apply bA); refine bR ?_ NB197_205.out _; (with_reducible repeat first | apply bN | apply bD | apply bA); refine bR ?_ NB197_205.out _; (with_reducible repeat first | apply bN | apply bD | apply bA); refine bR ?_ NB197_205.out _; (with_reducible repeat first | apply bN | apply bD | apply bA); exact BK197.out⟩, ⟨by (with_reducible repeat first | apply bN | apply bD | apply bA); refine bR ?_ NB201_205.out _; (with_reducible repeat first | apply bN | apply bD | apply bA); refine bR ?_ NB201_205.out _; (with_reducible repeat first | apply bN | apply bD | apply bA); refine bR ?_ NB201_205.out _; (with_reducible repeat first | apply bN | apply bD | apply bA); exact BK201.out⟩, ⟨by (with_reducible repeat first | apply bN | apply bD | apply bA); refine bP (cs := #[.int .u64 t202, .int .i64 t203, .int .i64 0]) ?_ 2 _ rfl; (with_reducible repeat first | apply bN | apply bD | apply bA); refine bP (cs := #[.int .u64 t202, .int .i64 0, .int .i64 0]) ?_ 1 _ rfl; (with_reducible repeat first | apply bN | apply bD | apply bA); refine bP (cs := #[.int .u64 0, .int .i64 0, .int .i64 0]) ?_ 0 _ rfl; (with_reducible repeat first | apply bN | apply bD | apply bA); exact BK205.out⟩, ⟨by repeat (first | (with_reducible first | exact HK.out | apply Kept.alloc | apply Kept.drewN | apply Kept.drew | refine Kept.setCell ?_ (.inr GW189.out) _ | refine Kept.setCell ?_ (.inr GW193.out) _ | refine Kept.setCell ?_ (.inr GW197.out) _ | refine Kept.setCell ?_ (.inr GW201.out) _ | refine Kept.setCell ?_ (.inr GW205.out) _) | exact HK.out)⟩, ⟨by repeat (first | (with_reducible first | exact HB.out | apply lA | apply lN | apply lD | refine lS ?_ GE189.out | refine lS ?_ GE193.out | refine lS ?_ GE197.out | refine lS ?_ GE201.out | refine lS ?_ GE205.out) | exact HB.out)⟩⟩
              ·rw [if_neg c63] at H
               have c63b0 : decide (1048577 < t202) = false := decide_eq_false c63
               clear c63
               have H' := mkA H
               clear H
               have hnb69 := NB205_189.out
               have hnc69 := NB189_205.out
               have hnb70 := NB205_193.out
               have hnc70 := NB193_205.out
               have hnb71 := NB205_197.out
               have hnc71 := NB197_205.out
               have hnb72 := NB205_201.out
               have hnc72 := NB201_205.out
               have hcz73_0 : w56.cell? ⟨gb205, 0, none⟩ = some (.int .u64 0) := (bC BK205.out 0).trans rfl
               have hcz73_1 : w56.cell? ⟨gb205, 1, none⟩ = some (.int .i64 0) := (bC BK205.out 1).trans rfl
               have hcz73_2 : w56.cell? ⟨gb205, 2, none⟩ = some (.int .i64 0) := (bC BK205.out 2).trans rfl
               have hfz73_0 := bF BK205.out 0
               have hfz73_1 := bF BK205.out 1
               have hfz73_2 := bF BK205.out 2
               have hnb74 := NB201_189.out
               have hnc74 := NB189_201.out
               have hnb75 := NB201_193.out
               have hnc75 := NB193_201.out
               have hnb76 := NB201_197.out
               have hnc76 := NB197_201.out
               have hcz77_0 : w56.cell? ⟨gb201, 0, none⟩ = some (.int .u64 t198) := (bC BK201.out 0).trans rfl
               have hcz77_1 : w56.cell? ⟨gb201, 1, none⟩ = some (.int .i64 t199) := (bC BK201.out 1).trans rfl
               have hcz77_2 : w56.cell? ⟨gb201, 2, none⟩ = some (.int .i64 t200) := (bC BK201.out 2).trans rfl
               have hfz77_0 := bF BK201.out 0
               have hfz77_1 := bF BK201.out 1
               have hfz77_2 := bF BK201.out 2
               go_wp2
               go_meet
               case rel => exact ⟨_, (((wrap64 ((ji46) + t203)) != (a1.size : Int))), (by first | rfl | (simp; done) | (simp only [← hji46] <;> (first | rfl | simp)) | (simp [*]; done)), H', ⟨by have := HJ12.out; first | omega | exact Nat.le_refl _⟩, ⟨by (with_reducible repeat (first | apply zrA | apply zrN | apply zrD)); exact zrM (zrF (p := ⟨gb205, 2, none⟩) (zrF (p := ⟨gb205, 1, none⟩) (zrF (p := ⟨gb205, 0, none⟩) (Kd.R_types HO_0.out BK205.out (by decide)) (fun _ hk => hk.2) (.int .u64 t202)) (fun _ hk => hk.2) (.int .i64 t203)) (fun _ hk => hk.2) (.int .i64 t204)) (fun _ hk => hk.1)⟩, ⟨by (with_reducible repeat first | apply bN | apply bD | apply bA); refine bR ?_ NB189_205.out _; (with_reducible repeat first | apply bN | apply bD | apply bA); refine bR ?_ NB189_205.out _; (with_reducible repeat first | apply bN | apply bD | apply bA); refine bR ?_ NB189_205.out _; (with_reducible repeat first | apply bN | apply bD | apply bA); exact BK189.out⟩, ⟨by (with_reducible repeat first | apply bN | apply bD | apply bA); refine bR ?_ NB193_205.out _; (with_reducible repeat first | apply bN | apply bD | apply bA); refine bR ?_ NB193_205.out _; (with_reducible repeat first | apply bN | apply bD | apply bA); refine bR ?_ NB193_205.out _; (with_reducible repeat first | apply bN | apply bD | apply bA); exact BK193.out⟩, ⟨by (with_reducible repeat first | apply bN | apply bD | apply bA); refine bR ?_ NB197_205.out _; (with_reducible repeat first | apply bN | apply bD | apply bA); refine bR ?_ NB197_205.out _; (with_reducible repeat first | apply bN | apply bD | apply bA); refine bR ?_ NB197_205.out _; (with_reducible repeat first | apply bN | apply bD | apply bA); exact BK197.out⟩, ⟨by (with_reducible repeat first | apply bN | apply bD | apply bA); refine bR ?_ NB201_205.out _; (with_reducible repeat first | apply bN | apply bD | apply bA); refine bR ?_ NB201_205.out _; (with_reducible repeat first | apply bN | apply bD | apply bA); refine bR ?_ NB201_205.out _; (with_reducible repeat first | apply bN | apply bD | apply bA); exact BK201.out⟩, ⟨by (with_reducible repeat first | apply bN | apply bD | apply bA); refine bP (cs := #[.int .u64 t202, .int .i64 t203, .int .i64 0]) ?_ 2 _ rfl; (with_reducible repeat first | apply bN | apply bD | apply bA); refine bP (cs := #[.int .u64 t202, .int .i64 0, .int .i64 0]) ?_ 1 _ rfl; (with_reducible repeat first | apply bN | apply bD | apply bA); refine bP (cs := #[.int .u64 0, .int .i64 0, .int .i64 0]) ?_ 0 _ rfl; (with_reducible repeat first | apply bN | apply bD | apply bA); exact BK205.out⟩, ⟨by repeat (first | (with_reducible first | exact HK.out | apply Kept.alloc | apply Kept.drewN | apply Kept.drew | refine Kept.setCell ?_ (.inr GW189.out) _ | refine Kept.setCell ?_ (.inr GW193.out) _ | refine Kept.setCell ?_ (.inr GW197.out) _ | refine Kept.setCell ?_ (.inr GW201.out) _ | refine Kept.setCell ?_ (.inr GW205.out) _) | exact HK.out)⟩, ⟨by repeat (first | (with_reducible first | exact HB.out | apply lA | apply lN | apply lD | refine lS ?_ GE189.out | refine lS ?_ GE193.out | refine lS ?_ GE197.out | refine lS ?_ GE201.out | refine lS ?_ GE205.out) | exact HB.out)⟩⟩
             ·rw [if_neg c62] at H
              have c62b0 : (t204 == 0) = false := beq_eq_false_iff_ne.mpr c62
              have c62b1 : (t204 != 0) = true := bne_iff_ne.mpr c62
              (first | rw [c62b0] | (simp only [i64_w, i32_w]; rw [c62b0]) | skip)
              have H' := mkA H
              clear H
              have hnb78 := NB205_189.out
              have hnc78 := NB189_205.out
              have hnb79 := NB205_193.out
              have hnc79 := NB193_205.out
              have hnb80 := NB205_197.out
              have hnc80 := NB197_205.out
              have hnb81 := NB205_201.out
              have hnc81 := NB201_205.out
              have hcz82_0 : w56.cell? ⟨gb205, 0, none⟩ = some (.int .u64 0) := (bC BK205.out 0).trans rfl
              have hcz82_1 : w56.cell? ⟨gb205, 1, none⟩ = some (.int .i64 0) := (bC BK205.out 1).trans rfl
              have hcz82_2 : w56.cell? ⟨gb205, 2, none⟩ = some (.int .i64 0) := (bC BK205.out 2).trans rfl
              have hfz82_0 := bF BK205.out 0
              have hfz82_1 := bF BK205.out 1
              have hfz82_2 := bF BK205.out 2
              go_wp2
              go_meet
              case rel => exact ⟨_, (true), (by first | rfl | (simp; done) | (simp [*]; done)), H', ⟨by have := HJ12.out; first | omega | exact Nat.le_refl _⟩, ⟨by (with_reducible repeat (first | apply zrA | apply zrN | apply zrD)); exact zrM (zrF (p := ⟨gb205, 2, none⟩) (zrF (p := ⟨gb205, 1, none⟩) (zrF (p := ⟨gb205, 0, none⟩) (Kd.R_types HO_0.out BK205.out (by decide)) (fun _ hk => hk.2) (.int .u64 t202)) (fun _ hk => hk.2) (.int .i64 t203)) (fun _ hk => hk.2) (.int .i64 t204)) (fun _ hk => hk.1)⟩, ⟨by (with_reducible repeat first | apply bN | apply bD | apply bA); refine bR ?_ NB189_205.out _; (with_reducible repeat first | apply bN | apply bD | apply bA); refine bR ?_ NB189_205.out _; (with_reducible repeat first | apply bN | apply bD | apply bA); refine bR ?_ NB189_205.out _; (with_reducible repeat first | apply bN | apply bD | apply bA); exact BK189.out⟩, ⟨by (with_reducible repeat first | apply bN | apply bD | apply bA); refine bR ?_ NB193_205.out _; (with_reducible repeat first | apply bN | apply bD | apply bA); refine bR ?_ NB193_205.out _; (with_reducible repeat first | apply bN | apply bD | apply bA); refine bR ?_ NB193_205.out _; (with_reducible repeat first | apply bN | apply bD | apply bA); exact BK193.out⟩, ⟨by (with_reducible repeat first | apply bN | apply bD | apply bA); refine bR ?_ NB197_205.out _; (with_reducible repeat first | apply bN | apply bD | apply bA); refine bR ?_ NB197_205.out _; (with_reducible repeat first | apply bN | apply bD | apply bA); refine bR ?_ NB197_205.out _; (with_reducible repeat first | apply bN | apply bD | apply bA); exact BK197.out⟩, ⟨by (with_reducible repeat first | apply bN | apply bD | apply bA); refine bR ?_ NB201_205.out _; (with_reducible repeat first | apply bN | apply bD | apply bA); refine bR ?_ NB201_205.out _; (with_reducible repeat first | apply bN | apply bD | apply bA); refine bR ?_ NB201_205.out _; (with_reducible repeat first | apply bN | apply bD | apply bA); exact BK201.out⟩, ⟨by (with_reducible repeat first | apply bN | apply bD | apply bA); refine bP (cs := #[.int .u64 t202, .int .i64 t203, .int .i64 0]) ?_ 2 _ rfl; (with_reducible repeat first | apply bN | apply bD | apply bA); refine bP (cs := #[.int .u64 t202, .int .i64 0, .int .i64 0]) ?_ 1 _ rfl; (with_reducible repeat first | apply bN | apply bD | apply bA); refine bP (cs := #[.int .u64 0, .int .i64 0, .int .i64 0]) ?_ 0 _ rfl; (with_reducible repeat first | apply bN | apply bD | apply bA); exact BK205.out⟩, ⟨by repeat (first | (with_reducible first | exact HK.out | apply Kept.alloc | apply Kept.drewN | apply Kept.drew | refine Kept.setCell ?_ (.inr GW189.out) _ | refine Kept.setCell ?_ (.inr GW193.out) _ | refine Kept.setCell ?_ (.inr GW197.out) _ | refine Kept.setCell ?_ (.inr GW201.out) _ | refine Kept.setCell ?_ (.inr GW205.out) _) | exact HK.out)⟩, ⟨by repeat (first | (with_reducible first | exact HB.out | apply lA | apply lN | apply lD | refine lS ?_ GE189.out | refine lS ?_ GE193.out | refine lS ?_ GE197.out | refine lS ?_ GE201.out | refine lS ?_ GE205.out) | exact HB.out)⟩⟩
            case rest =>
             clear HC50
             try clear c1
             try clear c2
             try clear p2
             try clear c3
             try clear c4
             try clear c4b0
             try clear c4b1
             try clear c5
             try clear c5b0
             try clear c5b1
             try clear c6
             try clear c6b0
             try clear c6b1
             try clear p6
             try clear c7
             try clear c8
             try clear c8b0
             try clear c8b1
             try clear c10
             try clear c10b0
             try clear c10b1
             try clear c11
             try clear c11b0
             try clear c11b1
             try clear c14
             try clear c17
             try clear c21
             try clear c22
             try clear c27
             try clear c28
             try clear c29
             try clear c31
             try clear c31b0
             try clear c31b1
             try clear c32
             try clear c33
             try clear c34
             try clear c36
             try clear c37
             try clear c38
             try clear c40
             try clear c42
             try clear c43
             try clear c44
             try clear c47
             try clear c47b0
             try clear c47b1
             try clear c48
             try clear c48b0
             try clear c48b1
             try clear c51
             try clear c52
             try clear c53
             try clear c57
             try clear c58
             try clear c59
             try clear c60
             try clear c62
             try clear c62b0
             try clear c62b1
             try clear c63
             try clear c63b0
             try clear c64
             try clear p64
             try clear c65
             try clear c66
             try clear c67
             try clear c69
             try clear c70
             try clear c71
             try clear c72
             try clear c74
             try clear c75
             try clear c76
             try clear c78
             try clear c79
             try clear c80
             try clear c81
             try clear hcz18_0
             try clear hcz18_1
             try clear hcz18_2
             try clear hcz23_0
             try clear hcz23_1
             try clear hcz23_2
             try clear hcz24_0
             try clear hcz24_1
             try clear hcz24_2
             try clear hcz30_0
             try clear hcz30_1
             try clear hcz30_2
             try clear hcz35_0
             try clear hcz35_1
             try clear hcz35_2
             try clear hcz39_0
             try clear hcz39_1
             try clear hcz39_2
             try clear hcz45_0
             try clear hcz45_1
             try clear hcz54_0
             try clear hcz54_1
             try clear hcz54_2
             try clear hcz61_0
             try clear hcz61_1
             try clear hcz61_2
             try clear hcz68_0
             try clear hcz68_1
             try clear hcz68_2
             try clear hcz73_0
             try clear hcz73_1
             try clear hcz73_2
             try clear hcz77_0
             try clear hcz77_1
             try clear hcz77_2
             try clear hcz82_0
             try clear hcz82_1
             try clear hcz82_2
             try clear hfz18_0
             try clear hfz18_1
             try clear hfz18_2
             try clear hfz23_0
             try clear hfz23_1
             try clear hfz23_2
             try clear hfz24_0
             try clear hfz24_1
             try clear hfz24_2
             try clear hfz30_0
             try clear hfz30_1
             try clear hfz30_2
             try clear hfz35_0
             try clear hfz35_1
             try clear hfz35_2
             try clear hfz39_0
             try clear hfz39_1
             try clear hfz39_2
             try clear hfz45_0
             try clear hfz45_1
             try clear hfz54_0
             try clear hfz54_1
             try clear hfz54_2
             try clear hfz61_0
             try clear hfz61_1
             try clear hfz61_2
             try clear hfz68_0
             try clear hfz68_1
             try clear hfz68_2
             try clear hfz73_0
             try clear hfz73_1
             try clear hfz73_2
             try clear hfz77_0
             try clear hfz77_1
             try clear hfz77_2
             try clear hfz82_0
             try clear hfz82_1
             try clear hfz82_2
             try clear p2
             try clear p6
             obtain ⟨kq, x73_49, rfl, HA, HJ49, HO_0, BK189, BK193, BK197, BK201, BK205, HK, HB⟩ := hcut
             cases kq with
             | zero => exact absurd HA.out (by simp [weighlockref24_commit.j1])
             | succ kj49 =>
              have H := HA.out
              clear HA
              simp only [weighlockref24_commit.j1] at H
              by_cases c83 : x73_49 = true
              ·subst c83
               have H1 : (some (l0, false)) = some (r1, r2) := by rw [if_pos rfl] at H; exact H
               clear H
               have H := H1
               clear H1
               simp only [Option.some.injEq, Prod.mk.injEq] at H
               obtain ⟨rfl, rfl⟩ := H
               obtain ⟨Ao84, co84, eo84⟩ := Kd.R_slice HO_0.out
               subst eo84
               have hnb85 := NB189_193.out
               have hnc85 := NB193_189.out
               have hnb86 := NB189_197.out
               have hnc86 := NB197_189.out
               have hnb87 := NB189_201.out
               have hnc87 := NB201_189.out
               have hnb88 := NB189_205.out
               have hnc88 := NB205_189.out
               have hcz89_0 : wc.cell? ⟨gb189, 0, none⟩ = some (.slice none 0 0) := (bC BK189.out 0).trans rfl
               have hcz89_1 : wc.cell? ⟨gb189, 1, none⟩ = some (.bool false) := (bC BK189.out 1).trans rfl
               have hfz89_0 := bF BK189.out 0
               have hfz89_1 := bF BK189.out 1
               go_wp2
               refine bodyPost_ret (results_cell_row rfl _ _ gb189 95 #[.slice Ao84 l0.length co84, .bool false] (0, 0) _ rfl (by (with_reducible repeat first | apply bN | apply bD | apply bA); refine bP (cs := #[.slice Ao84 l0.length co84, .bool false]) ?_ 1 _ rfl; (with_reducible repeat first | apply bN | apply bD | apply bA); refine bP (cs := #[.slice none 0 0, .bool false]) ?_ 0 _ rfl; (with_reducible repeat first | apply bN | apply bD | apply bA); exact BK189.out) Try.underlying95 rfl (by kernel_rfl)) rfl ?_
               exact ⟨_, by first | rfl | (simp [errW_none, errW_some] <;> rfl) | (simp only [← hji9, ← hji46]; first | rfl | (simp [errW_none, errW_some] <;> rfl)) | (simp [*, errW_none, errW_some] <;> rfl), by (with_reducible repeat (first | apply zrA | apply zrN | apply zrD)); exact zrM (zrF (p := ⟨gb189, 1, none⟩) (zrF (p := ⟨gb189, 0, none⟩) (Kd.R_types HO_0.out BK189.out (by decide)) (fun _ hk => hk.2) (.slice Ao84 l0.length co84)) (fun _ hk => hk.2) (.bool false)) (fun _ hk => hk.1), by repeat (first | (with_reducible first | exact HB.out | apply lA | apply lN | apply lD | refine lS ?_ GE189.out | refine lS ?_ GE193.out | refine lS ?_ GE197.out | refine lS ?_ GE201.out | refine lS ?_ GE205.out) | exact HB.out), by repeat (first | (with_reducible first | exact HK.out | apply Kept.alloc | apply Kept.drewN | apply Kept.drew | refine Kept.setCell ?_ (.inr GW189.out) _ | refine Kept.setCell ?_ (.inr GW193.out) _ | refine Kept.setCell ?_ (.inr GW197.out) _ | refine Kept.setCell ?_ (.inr GW201.out) _ | refine Kept.setCell ?_ (.inr GW205.out) _) | exact HK.out)⟩
              ·replace c83 := Bool.eq_false_iff.mpr c83
               subst c83
               have H1 : ((weighlockref24_May.f kj49 t190 t194 (wrap64 (t198)) (wrap64 (t202))).bind fun t207 => (if t207 = true then ((weighlockref24_Room.f kj49 l0 t190).bind fun t208 => (if t208 = true then ((weighlockref24_Put.f kj49 l0 t190 t194 (wrap64 (t198)) (wrap64 (t202))).bind fun t209 => (some (t209, true))) else (some (l0, false)))) else (some (l0, false)))) = some (r1, r2) := by rw [if_neg (show ¬ (false = true) by decide)] at H; exact H
               clear H
               have H := H1
               clear H1
               replace H := Option.bind_eq_some_iff.mp H
               obtain ⟨t207, A900, H⟩ := H
               replace H : (if t207 = true then ((weighlockref24_Room.f kj49 l0 t190).bind fun t208 => (if t208 = true then ((weighlockref24_Put.f kj49 l0 t190 t194 (wrap64 (t198)) (wrap64 (t202))).bind fun t209 => (some (t209, true))) else (some (l0, false)))) else (some (l0, false))) = some (r1, r2) := H
               have A90 := mkA A900
               clear A900
               by_cases c91 : t207 = true
               ·subst c91
                have H1 : ((weighlockref24_Room.f kj49 l0 t190).bind fun t208 => (if t208 = true then ((weighlockref24_Put.f kj49 l0 t190 t194 (wrap64 (t198)) (wrap64 (t202))).bind fun t209 => (some (t209, true))) else (some (l0, false)))) = some (r1, r2) := by rw [if_pos rfl] at H; exact H
                clear H
                have H := H1
                clear H1
                replace H := Option.bind_eq_some_iff.mp H
                obtain ⟨t208, A920, H⟩ := H
                replace H : (if t208 = true then ((weighlockref24_Put.f kj49 l0 t190 t194 (wrap64 (t198)) (wrap64 (t202))).bind fun t209 => (some (t209, true))) else (some (l0, false))) = some (r1, r2) := H
                have A92 := mkA A920
                clear A920
                by_cases c93 : t208 = true
                ·subst c93
                 have H1 : ((weighlockref24_Put.f kj49 l0 t190 t194 (wrap64 (t198)) (wrap64 (t202))).bind fun t209 => (some (t209, true))) = some (r1, r2) := by rw [if_pos rfl] at H; exact H
                 clear H
                 have H := H1
                 clear H1
                 replace H := Option.bind_eq_some_iff.mp H
                 obtain ⟨t209, A940, H⟩ := H
                 replace H : (some (t209, true)) = some (r1, r2) := H
                 have A94 := mkA A940
                 clear A940
                 simp only [Option.some.injEq, Prod.mk.injEq] at H
                 obtain ⟨rfl, rfl⟩ := H
                 have hnb95 := NB193_189.out
                 have hnc95 := NB189_193.out
                 have hnb96 := NB193_197.out
                 have hnc96 := NB197_193.out
                 have hnb97 := NB193_201.out
                 have hnc97 := NB201_193.out
                 have hnb98 := NB193_205.out
                 have hnc98 := NB205_193.out
                 have hcz99_0 : wc.cell? ⟨gb193, 0, none⟩ = some (.string t190) := (bC BK193.out 0).trans rfl
                 have hcz99_1 : wc.cell? ⟨gb193, 1, none⟩ = some (.int .i64 t191) := (bC BK193.out 1).trans rfl
                 have hcz99_2 : wc.cell? ⟨gb193, 2, none⟩ = some (.int .i64 t192) := (bC BK193.out 2).trans rfl
                 have hfz99_0 := bF BK193.out 0
                 have hfz99_1 := bF BK193.out 1
                 have hfz99_2 := bF BK193.out 2
                 have hnb100 := NB197_189.out
                 have hnc100 := NB189_197.out
                 have hnb101 := NB197_201.out
                 have hnc101 := NB201_197.out
                 have hnb102 := NB197_205.out
                 have hnc102 := NB205_197.out
                 have hcz103_0 : wc.cell? ⟨gb197, 0, none⟩ = some (.string t194) := (bC BK197.out 0).trans rfl
                 have hcz103_1 : wc.cell? ⟨gb197, 1, none⟩ = some (.int .i64 t195) := (bC BK197.out 1).trans rfl
                 have hcz103_2 : wc.cell? ⟨gb197, 2, none⟩ = some (.int .i64 t196) := (bC BK197.out 2).trans rfl
                 have hfz103_0 := bF BK197.out 0
                 have hfz103_1 := bF BK197.out 1
                 have hfz103_2 := bF BK197.out 2
                 have hnb104 := NB201_189.out
                 have hnc104 := NB189_201.out
                 have hnb105 := NB201_205.out
                 have hnc105 := NB205_201.out
                 have hcz106_0 : wc.cell? ⟨gb201, 0, none⟩ = some (.int .u64 t198) := (bC BK201.out 0).trans rfl
                 have hcz106_1 : wc.cell? ⟨gb201, 1, none⟩ = some (.int .i64 t199) := (bC BK201.out 1).trans rfl
                 have hcz106_2 : wc.cell? ⟨gb201, 2, none⟩ = some (.int .i64 t200) := (bC BK201.out 2).trans rfl
                 have hfz106_0 := bF BK201.out 0
                 have hfz106_1 := bF BK201.out 1
                 have hfz106_2 := bF BK201.out 2
                 have hnb107 := NB205_189.out
                 have hnc107 := NB189_205.out
                 have hcz108_0 : wc.cell? ⟨gb205, 0, none⟩ = some (.int .u64 t202) := (bC BK205.out 0).trans rfl
                 have hcz108_1 : wc.cell? ⟨gb205, 1, none⟩ = some (.int .i64 t203) := (bC BK205.out 1).trans rfl
                 have hcz108_2 : wc.cell? ⟨gb205, 2, none⟩ = some (.int .i64 t204) := (bC BK205.out 2).trans rfl
                 have hfz108_0 := bF BK205.out 0
                 have hfz108_1 := bF BK205.out 1
                 have hfz108_2 := bF BK205.out 2
                 go_wp2_with (first | ((with_reducible refine gate_dst (N := 10) rfl ?_); (try (refine gate_guard (by rfl) ?_; dsimp only)); refine box_event ?hg (N := 10) ?hd (cs := #[.string (⟨#[]⟩ : ByteArray), .string (⟨#[]⟩ : ByteArray), .int .i64 0, .int .i64 0]) (t := 166) ?hr ?_; (case hd => rfl); (case hg => rfl); (case hr => first | (go_simp; done) | (go_simp; rfl)); intro gb206 hg w109 hbox hb; have n0_ := mkA (zrB (Kd.R_elderB (by (with_reducible repeat (first | apply zrA | apply zrN | apply zrD)); exact HO_0.out) gb206 (Nat.le_of_eq hg.symm)) hb); have n1_ := mkA (bB (g := gb189) (o := .cells #[.slice none 0 0, .bool false] 95 (0, 0)) (by (with_reducible repeat first | apply bN | apply bD | apply bA); exact BK189.out) hb); have n2_ := mkA (bB (g := gb193) (o := .cells #[.string t190, .int .i64 t191, .int .i64 t192] 173 (0, 0)) (by (with_reducible repeat first | apply bN | apply bD | apply bA); exact BK193.out) hb); have n3_ := mkA (bB (g := gb197) (o := .cells #[.string t194, .int .i64 t195, .int .i64 t196] 173 (0, 0)) (by (with_reducible repeat first | apply bN | apply bD | apply bA); exact BK197.out) hb); have n4_ := mkA (bB (g := gb201) (o := .cells #[.int .u64 t198, .int .i64 t199, .int .i64 t200] 216 (0, 0)) (by (with_reducible repeat first | apply bN | apply bD | apply bA); exact BK201.out) hb); have n5_ := mkA (bB (g := gb205) (o := .cells #[.int .u64 t202, .int .i64 t203, .int .i64 t204] 216 (0, 0)) (by (with_reducible repeat first | apply bN | apply bD | apply bA); exact BK205.out) hb); have n6_ := mkA (Kept.below (S := (fun k_ => P0_ k_)) (by repeat (first | (with_reducible first | exact HK.out | apply Kept.alloc | apply Kept.drewN | apply Kept.drew | refine Kept.setCell ?_ (.inr GW189.out) _ | refine Kept.setCell ?_ (.inr GW193.out) _ | refine Kept.setCell ?_ (.inr GW197.out) _ | refine Kept.setCell ?_ (.inr GW201.out) _ | refine Kept.setCell ?_ (.inr GW205.out) _) | exact HK.out)) hb); have n7_ := mkA (zbS (by repeat (first | (with_reducible first | exact HB.out | apply lA | apply lN | apply lD | refine lS ?_ GE189.out | refine lS ?_ GE193.out | refine lS ?_ GE197.out | refine lS ?_ GE201.out | refine lS ?_ GE205.out) | exact HB.out)) hb); have n8_ := mkA (hbox); have n9_ := mkA ((by rw [hg]; exact (by first | exact HK.out.1 | exact (show Kept w _ (fun k_ => P0_ k_) from by repeat (first | (with_reducible first | exact HK.out | apply Kept.alloc | apply Kept.drewN | apply Kept.drew | refine Kept.setCell ?_ (.inr GW189.out) _ | refine Kept.setCell ?_ (.inr GW193.out) _ | refine Kept.setCell ?_ (.inr GW197.out) _ | refine Kept.setCell ?_ (.inr GW201.out) _ | refine Kept.setCell ?_ (.inr GW205.out) _) | exact HK.out)).1) : w.heap.size ≤ gb206)); have n10_ := mkA ((by rw [hg]; exact (below_size (by repeat (first | (with_reducible first | exact HB.out | apply lA | apply lN | apply lD | refine lS ?_ GE189.out | refine lS ?_ GE193.out | refine lS ?_ GE197.out | refine lS ?_ GE201.out | refine lS ?_ GE205.out) | exact HB.out))) : w0.heap.size ≤ gb206)); have n11_ := mkA ((by rw [hg]; exact Nat.ne_of_lt (blk_lt (g := gb189) (o := .cells #[.slice none 0 0, .bool false] 95 (0, 0)) (by (with_reducible repeat first | apply bN | apply bD | apply bA); exact BK189.out)) : gb189 ≠ gb206)); have n12_ := mkA ((by rw [hg]; exact Nat.ne_of_gt (blk_lt (g := gb189) (o := .cells #[.slice none 0 0, .bool false] 95 (0, 0)) (by (with_reducible repeat first | apply bN | apply bD | apply bA); exact BK189.out)) : gb206 ≠ gb189)); have n13_ := mkA ((by rw [hg]; exact Nat.ne_of_lt (blk_lt (g := gb193) (o := .cells #[.string t190, .int .i64 t191, .int .i64 t192] 173 (0, 0)) (by (with_reducible repeat first | apply bN | apply bD | apply bA); exact BK193.out)) : gb193 ≠ gb206)); have n14_ := mkA ((by rw [hg]; exact Nat.ne_of_gt (blk_lt (g := gb193) (o := .cells #[.string t190, .int .i64 t191, .int .i64 t192] 173 (0, 0)) (by (with_reducible repeat first | apply bN | apply bD | apply bA); exact BK193.out)) : gb206 ≠ gb193)); have n15_ := mkA ((by rw [hg]; exact Nat.ne_of_lt (blk_lt (g := gb197) (o := .cells #[.string t194, .int .i64 t195, .int .i64 t196] 173 (0, 0)) (by (with_reducible repeat first | apply bN | apply bD | apply bA); exact BK197.out)) : gb197 ≠ gb206)); have n16_ := mkA ((by rw [hg]; exact Nat.ne_of_gt (blk_lt (g := gb197) (o := .cells #[.string t194, .int .i64 t195, .int .i64 t196] 173 (0, 0)) (by (with_reducible repeat first | apply bN | apply bD | apply bA); exact BK197.out)) : gb206 ≠ gb197)); have n17_ := mkA ((by rw [hg]; exact Nat.ne_of_lt (blk_lt (g := gb201) (o := .cells #[.int .u64 t198, .int .i64 t199, .int .i64 t200] 216 (0, 0)) (by (with_reducible repeat first | apply bN | apply bD | apply bA); exact BK201.out)) : gb201 ≠ gb206)); have n18_ := mkA ((by rw [hg]; exact Nat.ne_of_gt (blk_lt (g := gb201) (o := .cells #[.int .u64 t198, .int .i64 t199, .int .i64 t200] 216 (0, 0)) (by (with_reducible repeat first | apply bN | apply bD | apply bA); exact BK201.out)) : gb206 ≠ gb201)); have n19_ := mkA ((by rw [hg]; exact Nat.ne_of_lt (blk_lt (g := gb205) (o := .cells #[.int .u64 t202, .int .i64 t203, .int .i64 t204] 216 (0, 0)) (by (with_reducible repeat first | apply bN | apply bD | apply bA); exact BK205.out)) : gb205 ≠ gb206)); have n20_ := mkA ((by rw [hg]; exact Nat.ne_of_gt (blk_lt (g := gb205) (o := .cells #[.int .u64 t202, .int .i64 t203, .int .i64 t204] 216 (0, 0)) (by (with_reducible repeat first | apply bN | apply bD | apply bA); exact BK205.out)) : gb206 ≠ gb205)); clear HO_0; clear BK189; clear BK193; clear BK197; clear BK201; clear BK205; clear HK; clear HB; have HO_0 := n0_; have BK189 := n1_; have BK193 := n2_; have BK197 := n3_; have BK201 := n4_; have BK205 := n5_; have HK := n6_; have HB := n7_; have BK206 := n8_; have GW206 := n9_; have GE206 := n10_; have NB189_206 := n11_; have NB206_189 := n12_; have NB193_206 := n13_; have NB206_193 := n14_; have NB197_206 := n15_; have NB206_197 := n16_; have NB201_206 := n17_; have NB206_201 := n18_; have NB205_206 := n19_; have NB206_205 := n20_; clear n0_ n1_ n2_ n3_ n4_ n5_ n6_ n7_ n8_ n9_ n10_ n11_ n12_ n13_ n14_ n15_ n16_ n17_ n18_ n19_ n20_; clear hb hbox hg; have hnb110 := NB206_189.out; have hnc110 := NB189_206.out; have hnb111 := NB206_193.out; have hnc111 := NB193_206.out; have hnb112 := NB206_197.out; have hnc112 := NB197_206.out; have hnb113 := NB206_201.out; have hnc113 := NB201_206.out; have hnb114 := NB206_205.out; have hnc114 := NB205_206.out; have hcz115_0 : w109.cell? ⟨gb206, 0, none⟩ = some (.string (⟨#[]⟩ : ByteArray)) := (bC BK206.out 0).trans rfl; have hcz115_1 : w109.cell? ⟨gb206, 1, none⟩ = some (.string (⟨#[]⟩ : ByteArray)) := (bC BK206.out 1).trans rfl; have hcz115_2 : w109.cell? ⟨gb206, 2, none⟩ = some (.int .i64 0) := (bC BK206.out 2).trans rfl; have hcz115_3 : w109.cell? ⟨gb206, 3, none⟩ = some (.int .i64 0) := (bC BK206.out 3).trans rfl; have hfz115_0 := bF BK206.out 0; have hfz115_1 := bF BK206.out 1; have hfz115_2 := bF BK206.out 2; have hfz115_3 := bF BK206.out 3) | ((with_reducible refine gate_callee (f := 100) rfl ?_); refine goesL_ (some 89) rfl rfl Try.func100 (by kernel_rfl) rfl #[.agg #[.string t190, .string t194, .int .i64 (wrap64 (t198)), .int .i64 (wrap64 (t202))]] rfl (by (try simp only [List.map_toArray, List.map_cons, List.map_nil]); first | done | rfl | (simp only [List.length_drop, List.length_take]; rfl)) ?_; (with_reducible refine (weighlockref24_May.calls kj49 t190 t194 (wrap64 (t198)) (wrap64 (t202)) true _ A90.out).mono ?_); rintro e w116 ⟨rfl, hb⟩; refine ⟨_, rfl, ?_⟩; have n0_ := mkA (zrB (by (with_reducible repeat (first | apply zrA | apply zrN | apply zrD)); exact (zrM (zrF (p := ⟨gb206, 3, none⟩) (zrF (p := ⟨gb206, 2, none⟩) (zrF (p := ⟨gb206, 1, none⟩) (zrF (p := ⟨gb206, 0, none⟩) (zrM HO_0.out (fun k_ hk => (⟨hk, hk.2⟩ : _ ∧ k_ ≠ gb206))) (fun _ hk => hk.2) (.string t190)) (fun _ hk => hk.2) (.string t194)) (fun _ hk => hk.2) (.int .i64 (wrap64 (t198)))) (fun _ hk => hk.2) (.int .i64 (wrap64 (t202)))) (fun _ h_ => h_.1))) hb); have n1_ := mkA (bB (g := gb189) (o := .cells #[.slice none 0 0, .bool false] 95 (0, 0)) (by (with_reducible repeat first | apply bN | apply bD | apply bA); refine bR ?_ NB189_206.out _; (with_reducible repeat first | apply bN | apply bD | apply bA); refine bR ?_ NB189_206.out _; (with_reducible repeat first | apply bN | apply bD | apply bA); refine bR ?_ NB189_206.out _; (with_reducible repeat first | apply bN | apply bD | apply bA); refine bR ?_ NB189_206.out _; (with_reducible repeat first | apply bN | apply bD | apply bA); exact BK189.out) hb); have n2_ := mkA (bB (g := gb193) (o := .cells #[.string t190, .int .i64 t191, .int .i64 t192] 173 (0, 0)) (by (with_reducible repeat first | apply bN | apply bD | apply bA); refine bR ?_ NB193_206.out _; (with_reducible repeat first | apply bN | apply bD | apply bA); refine bR ?_ NB193_206.out _; (with_reducible repeat first | apply bN | apply bD | apply bA); refine bR ?_ NB193_206.out _; (with_reducible repeat first | apply bN | apply bD | apply bA); refine bR ?_ NB193_206.out _; (with_reducible repeat first | apply bN | apply bD | apply bA); exact BK193.out) hb); have n3_ := mkA (bB (g := gb197) (o := .cells #[.string t194, .int .i64 t195, .int .i64 t196] 173 (0, 0)) (by (with_reducible repeat first | apply bN | apply bD | apply bA); refine bR ?_ NB197_206.out _; (with_reducible repeat first | apply bN | apply bD | apply bA); refine bR ?_ NB197_206.out _; (with_reducible repeat first | apply bN | apply bD | apply bA); refine bR ?_ NB197_206.out _; (with_reducible repeat first | apply bN | apply bD | apply bA); refine bR ?_ NB197_206.out _; (with_reducible repeat first | apply bN | apply bD | apply bA); exact BK197.out) hb); have n4_ := mkA (bB (g := gb201) (o := .cells #[.int .u64 t198, .int .i64 t199, .int .i64 t200] 216 (0, 0)) (by (with_reducible repeat first | apply bN | apply bD | apply bA); refine bR ?_ NB201_206.out _; (with_reducible repeat first | apply bN | apply bD | apply bA); refine bR ?_ NB201_206.out _; (with_reducible repeat first | apply bN | apply bD | apply bA); refine bR ?_ NB201_206.out _; (with_reducible repeat first | apply bN | apply bD | apply bA); refine bR ?_ NB201_206.out _; (with_reducible repeat first | apply bN | apply bD | apply bA); exact BK201.out) hb); have n5_ := mkA (bB (g := gb205) (o := .cells #[.int .u64 t202, .int .i64 t203, .int .i64 t204] 216 (0, 0)) (by (with_reducible repeat first | apply bN | apply bD | apply bA); refine bR ?_ NB205_206.out _; (with_reducible repeat first | apply bN | apply bD | apply bA); refine bR ?_ NB205_206.out _; (with_reducible repeat first | apply bN | apply bD | apply bA); refine bR ?_ NB205_206.out _; (with_reducible repeat first | apply bN | apply bD | apply bA); refine bR ?_ NB205_206.out _; (with_reducible repeat first | apply bN | apply bD | apply bA); exact BK205.out) hb); have n6_ := mkA (bB (g := gb206) (o := .cells #[.string t190, .string t194, .int .i64 (wrap64 (t198)), .int .i64 (wrap64 (t202))] 166 (0, 0)) (by (with_reducible repeat first | apply bN | apply bD | apply bA); refine bP (cs := #[.string t190, .string t194, .int .i64 (wrap64 (t198)), .int .i64 0]) ?_ 3 _ rfl; (with_reducible repeat first | apply bN | apply bD | apply bA); refine bP (cs := #[.string t190, .string t194, .int .i64 0, .int .i64 0]) ?_ 2 _ rfl; (with_reducible repeat first | apply bN | apply bD | apply bA); refine bP (cs := #[.string t190, .string (⟨#[]⟩ : ByteArray), .int .i64 0, .int .i64 0]) ?_ 1 _ rfl; (with_reducible repeat first | apply bN | apply bD | apply bA); refine bP (cs := #[.string (⟨#[]⟩ : ByteArray), .string (⟨#[]⟩ : ByteArray), .int .i64 0, .int .i64 0]) ?_ 0 _ rfl; (with_reducible repeat first | apply bN | apply bD | apply bA); exact BK206.out) hb); have n7_ := mkA (Kept.below (S := (fun k_ => P0_ k_)) (by repeat (first | (with_reducible first | exact HK.out | apply Kept.alloc | apply Kept.drewN | apply Kept.drew | refine Kept.setCell ?_ (.inr GW189.out) _ | refine Kept.setCell ?_ (.inr GW193.out) _ | refine Kept.setCell ?_ (.inr GW197.out) _ | refine Kept.setCell ?_ (.inr GW201.out) _ | refine Kept.setCell ?_ (.inr GW205.out) _ | refine Kept.setCell ?_ (.inr GW206.out) _) | exact HK.out)) hb); have n8_ := mkA (zbS (by repeat (first | (with_reducible first | exact HB.out | apply lA | apply lN | apply lD | refine lS ?_ GE189.out | refine lS ?_ GE193.out | refine lS ?_ GE197.out | refine lS ?_ GE201.out | refine lS ?_ GE205.out | refine lS ?_ GE206.out) | exact HB.out)) hb); clear HO_0; clear BK189; clear BK193; clear BK197; clear BK201; clear BK205; clear BK206; clear HK; clear HB; have HO_0 := n0_; have BK189 := n1_; have BK193 := n2_; have BK197 := n3_; have BK201 := n4_; have BK205 := n5_; have BK206 := n6_; have HK := n7_; have HB := n8_; clear n0_ n1_ n2_ n3_ n4_ n5_ n6_ n7_ n8_; (try clear hb); (try clear hb2); (try clear hk); (try clear hi); have hcz117_0 : w116.cell? ⟨gb206, 0, none⟩ = some (.string t190) := (bC BK206.out 0).trans rfl; have hcz117_1 : w116.cell? ⟨gb206, 1, none⟩ = some (.string t194) := (bC BK206.out 1).trans rfl; have hcz117_2 : w116.cell? ⟨gb206, 2, none⟩ = some (.int .i64 (wrap64 (t198))) := (bC BK206.out 2).trans rfl; have hcz117_3 : w116.cell? ⟨gb206, 3, none⟩ = some (.int .i64 (wrap64 (t202))) := (bC BK206.out 3).trans rfl; have hfz117_0 := bF BK206.out 0; have hfz117_1 := bF BK206.out 1; have hfz117_2 := bF BK206.out 2; have hfz117_3 := bF BK206.out 3; obtain ⟨Ao118, co118, eo118⟩ := Kd.R_slice HO_0.out; subst eo118) | (go_at_call 101; (with_reducible refine (weighlockref24_Room.calls kj49 _ _ l0 t190 true _ ?side1 ?side2 A92.out).mono ?_); (case side1 => repeat (first | exact (Kd.R_reads' HO_0.out).2.2 | (with_reducible refine Kd.C_alloc ?_ _) | (with_reducible refine Kd.C_drewN ?_ _) | (with_reducible refine Kd.C_drew ?_))); (case side2 => exact (Kd.R_reads' HO_0.out).2.1); rintro e w119 ⟨rfl, hb⟩; have n0_ := mkA (zrB (by (with_reducible repeat (first | apply zrA | apply zrN | apply zrD)); exact HO_0.out) hb); have n1_ := mkA (bB (g := gb189) (o := .cells #[.slice none 0 0, .bool false] 95 (0, 0)) (by (with_reducible repeat first | apply bN | apply bD | apply bA); exact BK189.out) hb); have n2_ := mkA (bB (g := gb193) (o := .cells #[.string t190, .int .i64 t191, .int .i64 t192] 173 (0, 0)) (by (with_reducible repeat first | apply bN | apply bD | apply bA); exact BK193.out) hb); have n3_ := mkA (bB (g := gb197) (o := .cells #[.string t194, .int .i64 t195, .int .i64 t196] 173 (0, 0)) (by (with_reducible repeat first | apply bN | apply bD | apply bA); exact BK197.out) hb); have n4_ := mkA (bB (g := gb201) (o := .cells #[.int .u64 t198, .int .i64 t199, .int .i64 t200] 216 (0, 0)) (by (with_reducible repeat first | apply bN | apply bD | apply bA); exact BK201.out) hb); have n5_ := mkA (bB (g := gb205) (o := .cells #[.int .u64 t202, .int .i64 t203, .int .i64 t204] 216 (0, 0)) (by (with_reducible repeat first | apply bN | apply bD | apply bA); exact BK205.out) hb); have n6_ := mkA (bB (g := gb206) (o := .cells #[.string t190, .string t194, .int .i64 (wrap64 (t198)), .int .i64 (wrap64 (t202))] 166 (0, 0)) (by (with_reducible repeat first | apply bN | apply bD | apply bA); exact BK206.out) hb); have n7_ := mkA (Kept.below (S := (fun k_ => P0_ k_)) (by repeat (first | (with_reducible first | exact HK.out | apply Kept.alloc | apply Kept.drewN | apply Kept.drew | refine Kept.setCell ?_ (.inr GW189.out) _ | refine Kept.setCell ?_ (.inr GW193.out) _ | refine Kept.setCell ?_ (.inr GW197.out) _ | refine Kept.setCell ?_ (.inr GW201.out) _ | refine Kept.setCell ?_ (.inr GW205.out) _ | refine Kept.setCell ?_ (.inr GW206.out) _) | exact HK.out)) hb); have n8_ := mkA (zbS (by repeat (first | (with_reducible first | exact HB.out | apply lA | apply lN | apply lD | refine lS ?_ GE189.out | refine lS ?_ GE193.out | refine lS ?_ GE197.out | refine lS ?_ GE201.out | refine lS ?_ GE205.out | refine lS ?_ GE206.out) | exact HB.out)) hb); clear HO_0; clear BK189; clear BK193; clear BK197; clear BK201; clear BK205; clear BK206; clear HK; clear HB; have HO_0 := n0_; have BK189 := n1_; have BK193 := n2_; have BK197 := n3_; have BK201 := n4_; have BK205 := n5_; have BK206 := n6_; have HK := n7_; have HB := n8_; clear n0_ n1_ n2_ n3_ n4_ n5_ n6_ n7_ n8_; (try clear hb); (try clear hb2); (try clear hk); (try clear hi); have hcz120_0 : w119.cell? ⟨gb206, 0, none⟩ = some (.string t190) := (bC BK206.out 0).trans rfl; have hcz120_1 : w119.cell? ⟨gb206, 1, none⟩ = some (.string t194) := (bC BK206.out 1).trans rfl; have hcz120_2 : w119.cell? ⟨gb206, 2, none⟩ = some (.int .i64 (wrap64 (t198))) := (bC BK206.out 2).trans rfl; have hcz120_3 : w119.cell? ⟨gb206, 3, none⟩ = some (.int .i64 (wrap64 (t202))) := (bC BK206.out 3).trans rfl; have hfz120_0 := bF BK206.out 0; have hfz120_1 := bF BK206.out 1; have hfz120_2 := bF BK206.out 2; have hfz120_3 := bF BK206.out 3) | ((with_reducible refine gate_callee (f := 141) rfl ?_); refine goesL_ (some 102) rfl rfl Try.func141 (by kernel_rfl) rfl #[.slice Ao118 l0.length co118, .agg #[.string t190, .string t194, .int .i64 (wrap64 (t198)), .int .i64 (wrap64 (t202))]] rfl (by (try simp only [List.map_toArray, List.map_cons, List.map_nil]); first | done | rfl | (simp only [List.length_drop, List.length_take]; rfl)) ?_; (with_reducible refine (weighlockref24_Put.calls kj49 _ _ l0 t190 t194 (wrap64 (t198)) (wrap64 (t202)) t209 _ ?side1 ?side2 A94.out).mono ?_); (case side1 => repeat (first | exact (Kd.R_reads' HO_0.out).2.2 | (with_reducible refine Kd.C_alloc ?_ _) | (with_reducible refine Kd.C_drewN ?_ _) | (with_reducible refine Kd.C_drew ?_))); (case side2 => exact (Kd.R_reads' HO_0.out).2.1); rintro e w121 ⟨v210, rfl, ho0, hb⟩; refine ⟨_, rfl, ?_⟩; have n0_ := mkA (Kd.R_elder' (by (with_reducible repeat (first | apply zrA | apply zrN | apply zrD)); exact HO_0.out) (Kd.R_base ho0) hb); have n1_ := mkA (Kd.R_lower (Kd.R_newB (Kd.R_new' (Kd.R_newM (M := fun k_ => (P0_ k_ ∨ w.heap.size ≤ k_)) ho0 (by first | exact HK.out.1 | exact (show Kept w _ (fun k_ => P0_ k_) from by repeat (first | (with_reducible first | exact HK.out | apply Kept.alloc | apply Kept.drewN | apply Kept.drew | refine Kept.setCell ?_ (.inr GW189.out) _ | refine Kept.setCell ?_ (.inr GW193.out) _ | refine Kept.setCell ?_ (.inr GW197.out) _ | refine Kept.setCell ?_ (.inr GW201.out) _ | refine Kept.setCell ?_ (.inr GW205.out) _ | refine Kept.setCell ?_ (.inr GW206.out) _) | exact HK.out)).1) (fun k_ h_ => .inr h_)) (Kd.R_lt (by (with_reducible repeat (first | apply zrA | apply zrN | apply zrD)); exact HO_0.out))) (g := gb206) (o := .cells #[.string t190, .string t194, .int .i64 (wrap64 (t198)), .int .i64 (wrap64 (t202))] 166 (0, 0)) (by (with_reducible repeat first | apply bN | apply bD | apply bA); exact BK206.out)) (below_size (by repeat (first | (with_reducible first | exact HB.out | apply lA | apply lN | apply lD | refine lS ?_ GE189.out | refine lS ?_ GE193.out | refine lS ?_ GE197.out | refine lS ?_ GE201.out | refine lS ?_ GE205.out | refine lS ?_ GE206.out) | exact HB.out)))); have n2_ := mkA (bB (g := gb189) (o := .cells #[.slice none 0 0, .bool false] 95 (0, 0)) (by (with_reducible repeat first | apply bN | apply bD | apply bA); exact BK189.out) hb); have n3_ := mkA (bB (g := gb193) (o := .cells #[.string t190, .int .i64 t191, .int .i64 t192] 173 (0, 0)) (by (with_reducible repeat first | apply bN | apply bD | apply bA); exact BK193.out) hb); have n4_ := mkA (bB (g := gb197) (o := .cells #[.string t194, .int .i64 t195, .int .i64 t196] 173 (0, 0)) (by (with_reducible repeat first | apply bN | apply bD | apply bA); exact BK197.out) hb); have n5_ := mkA (bB (g := gb201) (o := .cells #[.int .u64 t198, .int .i64 t199, .int .i64 t200] 216 (0, 0)) (by (with_reducible repeat first | apply bN | apply bD | apply bA); exact BK201.out) hb); have n6_ := mkA (bB (g := gb205) (o := .cells #[.int .u64 t202, .int .i64 t203, .int .i64 t204] 216 (0, 0)) (by (with_reducible repeat first | apply bN | apply bD | apply bA); exact BK205.out) hb); have n7_ := mkA (bB (g := gb206) (o := .cells #[.string t190, .string t194, .int .i64 (wrap64 (t198)), .int .i64 (wrap64 (t202))] 166 (0, 0)) (by (with_reducible repeat first | apply bN | apply bD | apply bA); exact BK206.out) hb); have n8_ := mkA (Kept.below (S := (fun k_ => P0_ k_)) (by repeat (first | (with_reducible first | exact HK.out | apply Kept.alloc | apply Kept.drewN | apply Kept.drew | refine Kept.setCell ?_ (.inr GW189.out) _ | refine Kept.setCell ?_ (.inr GW193.out) _ | refine Kept.setCell ?_ (.inr GW197.out) _ | refine Kept.setCell ?_ (.inr GW201.out) _ | refine Kept.setCell ?_ (.inr GW205.out) _ | refine Kept.setCell ?_ (.inr GW206.out) _) | exact HK.out)) hb); have n9_ := mkA (zbS (by repeat (first | (with_reducible first | exact HB.out | apply lA | apply lN | apply lD | refine lS ?_ GE189.out | refine lS ?_ GE193.out | refine lS ?_ GE197.out | refine lS ?_ GE201.out | refine lS ?_ GE205.out | refine lS ?_ GE206.out) | exact HB.out)) hb); clear HO_0; clear BK189; clear BK193; clear BK197; clear BK201; clear BK205; clear BK206; clear HK; clear HB; have HO_0 := n0_; have HO211 := n1_; have BK189 := n2_; have BK193 := n3_; have BK197 := n4_; have BK201 := n5_; have BK205 := n6_; have BK206 := n7_; have HK := n8_; have HB := n9_; clear n0_ n1_ n2_ n3_ n4_ n5_ n6_ n7_ n8_ n9_; (try clear hb); (try clear hb2); (try clear hk); (try clear hi); (try clear ho0); obtain ⟨Ao122, co122, eo122⟩ := Kd.R_slice HO211.out; subst eo122; have hcz123_0 : w121.cell? ⟨gb189, 0, none⟩ = some (.slice none 0 0) := (bC BK189.out 0).trans rfl; have hcz123_1 : w121.cell? ⟨gb189, 1, none⟩ = some (.bool false) := (bC BK189.out 1).trans rfl; have hfz123_0 := bF BK189.out 0; have hfz123_1 := bF BK189.out 1))
                 refine bodyPost_ret (results_cell_row rfl _ _ gb189 95 #[.slice Ao122 t209.length co122, .bool true] (0, 0) _ rfl (by (with_reducible repeat first | apply bN | apply bD | apply bA); refine bP (cs := #[.slice Ao122 t209.length co122, .bool false]) ?_ 1 _ rfl; (with_reducible repeat first | apply bN | apply bD | apply bA); refine bP (cs := #[.slice none 0 0, .bool false]) ?_ 0 _ rfl; (with_reducible repeat first | apply bN | apply bD | apply bA); exact BK189.out) Try.underlying95 rfl (by kernel_rfl)) rfl ?_
                 exact ⟨_, by first | rfl | (simp [errW_none, errW_some] <;> rfl) | (simp only [← hji9, ← hji46]; first | rfl | (simp [errW_none, errW_some] <;> rfl)) | (simp [*, errW_none, errW_some] <;> rfl), by (with_reducible repeat (first | apply zrA | apply zrN | apply zrD)); exact zrM (zrF (p := ⟨gb189, 1, none⟩) (zrF (p := ⟨gb189, 0, none⟩) (Kd.R_types HO211.out BK189.out (by decide)) (fun _ hk => hk.2) (.slice Ao122 t209.length co122)) (fun _ hk => hk.2) (.bool true)) (fun _ hk => hk.1.1.1.1), by repeat (first | (with_reducible first | exact HB.out | apply lA | apply lN | apply lD | refine lS ?_ GE189.out | refine lS ?_ GE193.out | refine lS ?_ GE197.out | refine lS ?_ GE201.out | refine lS ?_ GE205.out | refine lS ?_ GE206.out) | exact HB.out), by repeat (first | (with_reducible first | exact HK.out | apply Kept.alloc | apply Kept.drewN | apply Kept.drew | refine Kept.setCell ?_ (.inr GW189.out) _ | refine Kept.setCell ?_ (.inr GW193.out) _ | refine Kept.setCell ?_ (.inr GW197.out) _ | refine Kept.setCell ?_ (.inr GW201.out) _ | refine Kept.setCell ?_ (.inr GW205.out) _ | refine Kept.setCell ?_ (.inr GW206.out) _) | exact HK.out)⟩
                ·replace c93 := Bool.eq_false_iff.mpr c93
                 subst c93
                 have H1 : (some (l0, false)) = some (r1, r2) := by rw [if_neg (show ¬ (false = true) by decide)] at H; exact H
                 clear H
                 have H := H1
                 clear H1
                 simp only [Option.some.injEq, Prod.mk.injEq] at H
                 obtain ⟨rfl, rfl⟩ := H
                 have hnb124 := NB193_189.out
                 have hnc124 := NB189_193.out
                 have hnb125 := NB193_197.out
                 have hnc125 := NB197_193.out
                 have hnb126 := NB193_201.out
                 have hnc126 := NB201_193.out
                 have hnb127 := NB193_205.out
                 have hnc127 := NB205_193.out
                 have hcz128_0 : wc.cell? ⟨gb193, 0, none⟩ = some (.string t190) := (bC BK193.out 0).trans rfl
                 have hcz128_1 : wc.cell? ⟨gb193, 1, none⟩ = some (.int .i64 t191) := (bC BK193.out 1).trans rfl
                 have hcz128_2 : wc.cell? ⟨gb193, 2, none⟩ = some (.int .i64 t192) := (bC BK193.out 2).trans rfl
                 have hfz128_0 := bF BK193.out 0
                 have hfz128_1 := bF BK193.out 1
                 have hfz128_2 := bF BK193.out 2
                 have hnb129 := NB197_189.out
                 have hnc129 := NB189_197.out
                 have hnb130 := NB197_201.out
                 have hnc130 := NB201_197.out
                 have hnb131 := NB197_205.out
                 have hnc131 := NB205_197.out
                 have hcz132_0 : wc.cell? ⟨gb197, 0, none⟩ = some (.string t194) := (bC BK197.out 0).trans rfl
                 have hcz132_1 : wc.cell? ⟨gb197, 1, none⟩ = some (.int .i64 t195) := (bC BK197.out 1).trans rfl
                 have hcz132_2 : wc.cell? ⟨gb197, 2, none⟩ = some (.int .i64 t196) := (bC BK197.out 2).trans rfl
                 have hfz132_0 := bF BK197.out 0
                 have hfz132_1 := bF BK197.out 1
                 have hfz132_2 := bF BK197.out 2
                 have hnb133 := NB201_189.out
                 have hnc133 := NB189_201.out
                 have hnb134 := NB201_205.out
                 have hnc134 := NB205_201.out
                 have hcz135_0 : wc.cell? ⟨gb201, 0, none⟩ = some (.int .u64 t198) := (bC BK201.out 0).trans rfl
                 have hcz135_1 : wc.cell? ⟨gb201, 1, none⟩ = some (.int .i64 t199) := (bC BK201.out 1).trans rfl
                 have hcz135_2 : wc.cell? ⟨gb201, 2, none⟩ = some (.int .i64 t200) := (bC BK201.out 2).trans rfl
                 have hfz135_0 := bF BK201.out 0
                 have hfz135_1 := bF BK201.out 1
                 have hfz135_2 := bF BK201.out 2
                 have hnb136 := NB205_189.out
                 have hnc136 := NB189_205.out
                 have hcz137_0 : wc.cell? ⟨gb205, 0, none⟩ = some (.int .u64 t202) := (bC BK205.out 0).trans rfl
                 have hcz137_1 : wc.cell? ⟨gb205, 1, none⟩ = some (.int .i64 t203) := (bC BK205.out 1).trans rfl
                 have hcz137_2 : wc.cell? ⟨gb205, 2, none⟩ = some (.int .i64 t204) := (bC BK205.out 2).trans rfl
                 have hfz137_0 := bF BK205.out 0
                 have hfz137_1 := bF BK205.out 1
                 have hfz137_2 := bF BK205.out 2
                 go_wp2_with (first | ((with_reducible refine gate_dst (N := 10) rfl ?_); (try (refine gate_guard (by rfl) ?_; dsimp only)); refine box_event ?hg (N := 10) ?hd (cs := #[.string (⟨#[]⟩ : ByteArray), .string (⟨#[]⟩ : ByteArray), .int .i64 0, .int .i64 0]) (t := 166) ?hr ?_; (case hd => rfl); (case hg => rfl); (case hr => first | (go_simp; done) | (go_simp; rfl)); intro gb206 hg w138 hbox hb; have n0_ := mkA (zrB (Kd.R_elderB (by (with_reducible repeat (first | apply zrA | apply zrN | apply zrD)); exact HO_0.out) gb206 (Nat.le_of_eq hg.symm)) hb); have n1_ := mkA (bB (g := gb189) (o := .cells #[.slice none 0 0, .bool false] 95 (0, 0)) (by (with_reducible repeat first | apply bN | apply bD | apply bA); exact BK189.out) hb); have n2_ := mkA (bB (g := gb193) (o := .cells #[.string t190, .int .i64 t191, .int .i64 t192] 173 (0, 0)) (by (with_reducible repeat first | apply bN | apply bD | apply bA); exact BK193.out) hb); have n3_ := mkA (bB (g := gb197) (o := .cells #[.string t194, .int .i64 t195, .int .i64 t196] 173 (0, 0)) (by (with_reducible repeat first | apply bN | apply bD | apply bA); exact BK197.out) hb); have n4_ := mkA (bB (g := gb201) (o := .cells #[.int .u64 t198, .int .i64 t199, .int .i64 t200] 216 (0, 0)) (by (with_reducible repeat first | apply bN | apply bD | apply bA); exact BK201.out) hb); have n5_ := mkA (bB (g := gb205) (o := .cells #[.int .u64 t202, .int .i64 t203, .int .i64 t204] 216 (0, 0)) (by (with_reducible repeat first | apply bN | apply bD | apply bA); exact BK205.out) hb); have n6_ := mkA (Kept.below (S := (fun k_ => P0_ k_)) (by repeat (first | (with_reducible first | exact HK.out | apply Kept.alloc | apply Kept.drewN | apply Kept.drew | refine Kept.setCell ?_ (.inr GW189.out) _ | refine Kept.setCell ?_ (.inr GW193.out) _ | refine Kept.setCell ?_ (.inr GW197.out) _ | refine Kept.setCell ?_ (.inr GW201.out) _ | refine Kept.setCell ?_ (.inr GW205.out) _) | exact HK.out)) hb); have n7_ := mkA (zbS (by repeat (first | (with_reducible first | exact HB.out | apply lA | apply lN | apply lD | refine lS ?_ GE189.out | refine lS ?_ GE193.out | refine lS ?_ GE197.out | refine lS ?_ GE201.out | refine lS ?_ GE205.out) | exact HB.out)) hb); have n8_ := mkA (hbox); have n9_ := mkA ((by rw [hg]; exact (by first | exact HK.out.1 | exact (show Kept w _ (fun k_ => P0_ k_) from by repeat (first | (with_reducible first | exact HK.out | apply Kept.alloc | apply Kept.drewN | apply Kept.drew | refine Kept.setCell ?_ (.inr GW189.out) _ | refine Kept.setCell ?_ (.inr GW193.out) _ | refine Kept.setCell ?_ (.inr GW197.out) _ | refine Kept.setCell ?_ (.inr GW201.out) _ | refine Kept.setCell ?_ (.inr GW205.out) _) | exact HK.out)).1) : w.heap.size ≤ gb206)); have n10_ := mkA ((by rw [hg]; exact (below_size (by repeat (first | (with_reducible first | exact HB.out | apply lA | apply lN | apply lD | refine lS ?_ GE189.out | refine lS ?_ GE193.out | refine lS ?_ GE197.out | refine lS ?_ GE201.out | refine lS ?_ GE205.out) | exact HB.out))) : w0.heap.size ≤ gb206)); have n11_ := mkA ((by rw [hg]; exact Nat.ne_of_lt (blk_lt (g := gb189) (o := .cells #[.slice none 0 0, .bool false] 95 (0, 0)) (by (with_reducible repeat first | apply bN | apply bD | apply bA); exact BK189.out)) : gb189 ≠ gb206)); have n12_ := mkA ((by rw [hg]; exact Nat.ne_of_gt (blk_lt (g := gb189) (o := .cells #[.slice none 0 0, .bool false] 95 (0, 0)) (by (with_reducible repeat first | apply bN | apply bD | apply bA); exact BK189.out)) : gb206 ≠ gb189)); have n13_ := mkA ((by rw [hg]; exact Nat.ne_of_lt (blk_lt (g := gb193) (o := .cells #[.string t190, .int .i64 t191, .int .i64 t192] 173 (0, 0)) (by (with_reducible repeat first | apply bN | apply bD | apply bA); exact BK193.out)) : gb193 ≠ gb206)); have n14_ := mkA ((by rw [hg]; exact Nat.ne_of_gt (blk_lt (g := gb193) (o := .cells #[.string t190, .int .i64 t191, .int .i64 t192] 173 (0, 0)) (by (with_reducible repeat first | apply bN | apply bD | apply bA); exact BK193.out)) : gb206 ≠ gb193)); have n15_ := mkA ((by rw [hg]; exact Nat.ne_of_lt (blk_lt (g := gb197) (o := .cells #[.string t194, .int .i64 t195, .int .i64 t196] 173 (0, 0)) (by (with_reducible repeat first | apply bN | apply bD | apply bA); exact BK197.out)) : gb197 ≠ gb206)); have n16_ := mkA ((by rw [hg]; exact Nat.ne_of_gt (blk_lt (g := gb197) (o := .cells #[.string t194, .int .i64 t195, .int .i64 t196] 173 (0, 0)) (by (with_reducible repeat first | apply bN | apply bD | apply bA); exact BK197.out)) : gb206 ≠ gb197)); have n17_ := mkA ((by rw [hg]; exact Nat.ne_of_lt (blk_lt (g := gb201) (o := .cells #[.int .u64 t198, .int .i64 t199, .int .i64 t200] 216 (0, 0)) (by (with_reducible repeat first | apply bN | apply bD | apply bA); exact BK201.out)) : gb201 ≠ gb206)); have n18_ := mkA ((by rw [hg]; exact Nat.ne_of_gt (blk_lt (g := gb201) (o := .cells #[.int .u64 t198, .int .i64 t199, .int .i64 t200] 216 (0, 0)) (by (with_reducible repeat first | apply bN | apply bD | apply bA); exact BK201.out)) : gb206 ≠ gb201)); have n19_ := mkA ((by rw [hg]; exact Nat.ne_of_lt (blk_lt (g := gb205) (o := .cells #[.int .u64 t202, .int .i64 t203, .int .i64 t204] 216 (0, 0)) (by (with_reducible repeat first | apply bN | apply bD | apply bA); exact BK205.out)) : gb205 ≠ gb206)); have n20_ := mkA ((by rw [hg]; exact Nat.ne_of_gt (blk_lt (g := gb205) (o := .cells #[.int .u64 t202, .int .i64 t203, .int .i64 t204] 216 (0, 0)) (by (with_reducible repeat first | apply bN | apply bD | apply bA); exact BK205.out)) : gb206 ≠ gb205)); clear HO_0; clear BK189; clear BK193; clear BK197; clear BK201; clear BK205; clear HK; clear HB; have HO_0 := n0_; have BK189 := n1_; have BK193 := n2_; have BK197 := n3_; have BK201 := n4_; have BK205 := n5_; have HK := n6_; have HB := n7_; have BK206 := n8_; have GW206 := n9_; have GE206 := n10_; have NB189_206 := n11_; have NB206_189 := n12_; have NB193_206 := n13_; have NB206_193 := n14_; have NB197_206 := n15_; have NB206_197 := n16_; have NB201_206 := n17_; have NB206_201 := n18_; have NB205_206 := n19_; have NB206_205 := n20_; clear n0_ n1_ n2_ n3_ n4_ n5_ n6_ n7_ n8_ n9_ n10_ n11_ n12_ n13_ n14_ n15_ n16_ n17_ n18_ n19_ n20_; clear hb hbox hg; have hnb139 := NB206_189.out; have hnc139 := NB189_206.out; have hnb140 := NB206_193.out; have hnc140 := NB193_206.out; have hnb141 := NB206_197.out; have hnc141 := NB197_206.out; have hnb142 := NB206_201.out; have hnc142 := NB201_206.out; have hnb143 := NB206_205.out; have hnc143 := NB205_206.out; have hcz144_0 : w138.cell? ⟨gb206, 0, none⟩ = some (.string (⟨#[]⟩ : ByteArray)) := (bC BK206.out 0).trans rfl; have hcz144_1 : w138.cell? ⟨gb206, 1, none⟩ = some (.string (⟨#[]⟩ : ByteArray)) := (bC BK206.out 1).trans rfl; have hcz144_2 : w138.cell? ⟨gb206, 2, none⟩ = some (.int .i64 0) := (bC BK206.out 2).trans rfl; have hcz144_3 : w138.cell? ⟨gb206, 3, none⟩ = some (.int .i64 0) := (bC BK206.out 3).trans rfl; have hfz144_0 := bF BK206.out 0; have hfz144_1 := bF BK206.out 1; have hfz144_2 := bF BK206.out 2; have hfz144_3 := bF BK206.out 3) | ((with_reducible refine gate_callee (f := 100) rfl ?_); refine goesL_ (some 89) rfl rfl Try.func100 (by kernel_rfl) rfl #[.agg #[.string t190, .string t194, .int .i64 (wrap64 (t198)), .int .i64 (wrap64 (t202))]] rfl (by (try simp only [List.map_toArray, List.map_cons, List.map_nil]); first | done | rfl | (simp only [List.length_drop, List.length_take]; rfl)) ?_; (with_reducible refine (weighlockref24_May.calls kj49 t190 t194 (wrap64 (t198)) (wrap64 (t202)) true _ A90.out).mono ?_); rintro e w145 ⟨rfl, hb⟩; refine ⟨_, rfl, ?_⟩; have n0_ := mkA (zrB (by (with_reducible repeat (first | apply zrA | apply zrN | apply zrD)); exact (zrM (zrF (p := ⟨gb206, 3, none⟩) (zrF (p := ⟨gb206, 2, none⟩) (zrF (p := ⟨gb206, 1, none⟩) (zrF (p := ⟨gb206, 0, none⟩) (zrM HO_0.out (fun k_ hk => (⟨hk, hk.2⟩ : _ ∧ k_ ≠ gb206))) (fun _ hk => hk.2) (.string t190)) (fun _ hk => hk.2) (.string t194)) (fun _ hk => hk.2) (.int .i64 (wrap64 (t198)))) (fun _ hk => hk.2) (.int .i64 (wrap64 (t202)))) (fun _ h_ => h_.1))) hb); have n1_ := mkA (bB (g := gb189) (o := .cells #[.slice none 0 0, .bool false] 95 (0, 0)) (by (with_reducible repeat first | apply bN | apply bD | apply bA); refine bR ?_ NB189_206.out _; (with_reducible repeat first | apply bN | apply bD | apply bA); refine bR ?_ NB189_206.out _; (with_reducible repeat first | apply bN | apply bD | apply bA); refine bR ?_ NB189_206.out _; (with_reducible repeat first | apply bN | apply bD | apply bA); refine bR ?_ NB189_206.out _; (with_reducible repeat first | apply bN | apply bD | apply bA); exact BK189.out) hb); have n2_ := mkA (bB (g := gb193) (o := .cells #[.string t190, .int .i64 t191, .int .i64 t192] 173 (0, 0)) (by (with_reducible repeat first | apply bN | apply bD | apply bA); refine bR ?_ NB193_206.out _; (with_reducible repeat first | apply bN | apply bD | apply bA); refine bR ?_ NB193_206.out _; (with_reducible repeat first | apply bN | apply bD | apply bA); refine bR ?_ NB193_206.out _; (with_reducible repeat first | apply bN | apply bD | apply bA); refine bR ?_ NB193_206.out _; (with_reducible repeat first | apply bN | apply bD | apply bA); exact BK193.out) hb); have n3_ := mkA (bB (g := gb197) (o := .cells #[.string t194, .int .i64 t195, .int .i64 t196] 173 (0, 0)) (by (with_reducible repeat first | apply bN | apply bD | apply bA); refine bR ?_ NB197_206.out _; (with_reducible repeat first | apply bN | apply bD | apply bA); refine bR ?_ NB197_206.out _; (with_reducible repeat first | apply bN | apply bD | apply bA); refine bR ?_ NB197_206.out _; (with_reducible repeat first | apply bN | apply bD | apply bA); refine bR ?_ NB197_206.out _; (with_reducible repeat first | apply bN | apply bD | apply bA); exact BK197.out) hb); have n4_ := mkA (bB (g := gb201) (o := .cells #[.int .u64 t198, .int .i64 t199, .int .i64 t200] 216 (0, 0)) (by (with_reducible repeat first | apply bN | apply bD | apply bA); refine bR ?_ NB201_206.out _; (with_reducible repeat first | apply bN | apply bD | apply bA); refine bR ?_ NB201_206.out _; (with_reducible repeat first | apply bN | apply bD | apply bA); refine bR ?_ NB201_206.out _; (with_reducible repeat first | apply bN | apply bD | apply bA); refine bR ?_ NB201_206.out _; (with_reducible repeat first | apply bN | apply bD | apply bA); exact BK201.out) hb); have n5_ := mkA (bB (g := gb205) (o := .cells #[.int .u64 t202, .int .i64 t203, .int .i64 t204] 216 (0, 0)) (by (with_reducible repeat first | apply bN | apply bD | apply bA); refine bR ?_ NB205_206.out _; (with_reducible repeat first | apply bN | apply bD | apply bA); refine bR ?_ NB205_206.out _; (with_reducible repeat first | apply bN | apply bD | apply bA); refine bR ?_ NB205_206.out _; (with_reducible repeat first | apply bN | apply bD | apply bA); refine bR ?_ NB205_206.out _; (with_reducible repeat first | apply bN | apply bD | apply bA); exact BK205.out) hb); have n6_ := mkA (bB (g := gb206) (o := .cells #[.string t190, .string t194, .int .i64 (wrap64 (t198)), .int .i64 (wrap64 (t202))] 166 (0, 0)) (by (with_reducible repeat first | apply bN | apply bD | apply bA); refine bP (cs := #[.string t190, .string t194, .int .i64 (wrap64 (t198)), .int .i64 0]) ?_ 3 _ rfl; (with_reducible repeat first | apply bN | apply bD | apply bA); refine bP (cs := #[.string t190, .string t194, .int .i64 0, .int .i64 0]) ?_ 2 _ rfl; (with_reducible repeat first | apply bN | apply bD | apply bA); refine bP (cs := #[.string t190, .string (⟨#[]⟩ : ByteArray), .int .i64 0, .int .i64 0]) ?_ 1 _ rfl; (with_reducible repeat first | apply bN | apply bD | apply bA); refine bP (cs := #[.string (⟨#[]⟩ : ByteArray), .string (⟨#[]⟩ : ByteArray), .int .i64 0, .int .i64 0]) ?_ 0 _ rfl; (with_reducible repeat first | apply bN | apply bD | apply bA); exact BK206.out) hb); have n7_ := mkA (Kept.below (S := (fun k_ => P0_ k_)) (by repeat (first | (with_reducible first | exact HK.out | apply Kept.alloc | apply Kept.drewN | apply Kept.drew | refine Kept.setCell ?_ (.inr GW189.out) _ | refine Kept.setCell ?_ (.inr GW193.out) _ | refine Kept.setCell ?_ (.inr GW197.out) _ | refine Kept.setCell ?_ (.inr GW201.out) _ | refine Kept.setCell ?_ (.inr GW205.out) _ | refine Kept.setCell ?_ (.inr GW206.out) _) | exact HK.out)) hb); have n8_ := mkA (zbS (by repeat (first | (with_reducible first | exact HB.out | apply lA | apply lN | apply lD | refine lS ?_ GE189.out | refine lS ?_ GE193.out | refine lS ?_ GE197.out | refine lS ?_ GE201.out | refine lS ?_ GE205.out | refine lS ?_ GE206.out) | exact HB.out)) hb); clear HO_0; clear BK189; clear BK193; clear BK197; clear BK201; clear BK205; clear BK206; clear HK; clear HB; have HO_0 := n0_; have BK189 := n1_; have BK193 := n2_; have BK197 := n3_; have BK201 := n4_; have BK205 := n5_; have BK206 := n6_; have HK := n7_; have HB := n8_; clear n0_ n1_ n2_ n3_ n4_ n5_ n6_ n7_ n8_; (try clear hb); (try clear hb2); (try clear hk); (try clear hi); have hcz146_0 : w145.cell? ⟨gb206, 0, none⟩ = some (.string t190) := (bC BK206.out 0).trans rfl; have hcz146_1 : w145.cell? ⟨gb206, 1, none⟩ = some (.string t194) := (bC BK206.out 1).trans rfl; have hcz146_2 : w145.cell? ⟨gb206, 2, none⟩ = some (.int .i64 (wrap64 (t198))) := (bC BK206.out 2).trans rfl; have hcz146_3 : w145.cell? ⟨gb206, 3, none⟩ = some (.int .i64 (wrap64 (t202))) := (bC BK206.out 3).trans rfl; have hfz146_0 := bF BK206.out 0; have hfz146_1 := bF BK206.out 1; have hfz146_2 := bF BK206.out 2; have hfz146_3 := bF BK206.out 3; obtain ⟨Ao147, co147, eo147⟩ := Kd.R_slice HO_0.out; subst eo147) | (go_at_call 101; (with_reducible refine (weighlockref24_Room.calls kj49 _ _ l0 t190 false _ ?side1 ?side2 A92.out).mono ?_); (case side1 => repeat (first | exact (Kd.R_reads' HO_0.out).2.2 | (with_reducible refine Kd.C_alloc ?_ _) | (with_reducible refine Kd.C_drewN ?_ _) | (with_reducible refine Kd.C_drew ?_))); (case side2 => exact (Kd.R_reads' HO_0.out).2.1); rintro e w148 ⟨rfl, hb⟩; have n0_ := mkA (zrB (by (with_reducible repeat (first | apply zrA | apply zrN | apply zrD)); exact HO_0.out) hb); have n1_ := mkA (bB (g := gb189) (o := .cells #[.slice none 0 0, .bool false] 95 (0, 0)) (by (with_reducible repeat first | apply bN | apply bD | apply bA); exact BK189.out) hb); have n2_ := mkA (bB (g := gb193) (o := .cells #[.string t190, .int .i64 t191, .int .i64 t192] 173 (0, 0)) (by (with_reducible repeat first | apply bN | apply bD | apply bA); exact BK193.out) hb); have n3_ := mkA (bB (g := gb197) (o := .cells #[.string t194, .int .i64 t195, .int .i64 t196] 173 (0, 0)) (by (with_reducible repeat first | apply bN | apply bD | apply bA); exact BK197.out) hb); have n4_ := mkA (bB (g := gb201) (o := .cells #[.int .u64 t198, .int .i64 t199, .int .i64 t200] 216 (0, 0)) (by (with_reducible repeat first | apply bN | apply bD | apply bA); exact BK201.out) hb); have n5_ := mkA (bB (g := gb205) (o := .cells #[.int .u64 t202, .int .i64 t203, .int .i64 t204] 216 (0, 0)) (by (with_reducible repeat first | apply bN | apply bD | apply bA); exact BK205.out) hb); have n6_ := mkA (bB (g := gb206) (o := .cells #[.string t190, .string t194, .int .i64 (wrap64 (t198)), .int .i64 (wrap64 (t202))] 166 (0, 0)) (by (with_reducible repeat first | apply bN | apply bD | apply bA); exact BK206.out) hb); have n7_ := mkA (Kept.below (S := (fun k_ => P0_ k_)) (by repeat (first | (with_reducible first | exact HK.out | apply Kept.alloc | apply Kept.drewN | apply Kept.drew | refine Kept.setCell ?_ (.inr GW189.out) _ | refine Kept.setCell ?_ (.inr GW193.out) _ | refine Kept.setCell ?_ (.inr GW197.out) _ | refine Kept.setCell ?_ (.inr GW201.out) _ | refine Kept.setCell ?_ (.inr GW205.out) _ | refine Kept.setCell ?_ (.inr GW206.out) _) | exact HK.out)) hb); have n8_ := mkA (zbS (by repeat (first | (with_reducible first | exact HB.out | apply lA | apply lN | apply lD | refine lS ?_ GE189.out | refine lS ?_ GE193.out | refine lS ?_ GE197.out | refine lS ?_ GE201.out | refine lS ?_ GE205.out | refine lS ?_ GE206.out) | exact HB.out)) hb); clear HO_0; clear BK189; clear BK193; clear BK197; clear BK201; clear BK205; clear BK206; clear HK; clear HB; have HO_0 := n0_; have BK189 := n1_; have BK193 := n2_; have BK197 := n3_; have BK201 := n4_; have BK205 := n5_; have BK206 := n6_; have HK := n7_; have HB := n8_; clear n0_ n1_ n2_ n3_ n4_ n5_ n6_ n7_ n8_; (try clear hb); (try clear hb2); (try clear hk); (try clear hi); have hcz149_0 : w148.cell? ⟨gb189, 0, none⟩ = some (.slice none 0 0) := (bC BK189.out 0).trans rfl; have hcz149_1 : w148.cell? ⟨gb189, 1, none⟩ = some (.bool false) := (bC BK189.out 1).trans rfl; have hfz149_0 := bF BK189.out 0; have hfz149_1 := bF BK189.out 1))
                 refine bodyPost_ret (results_cell_row rfl _ _ gb189 95 #[.slice Ao147 l0.length co147, .bool false] (0, 0) _ rfl (by (with_reducible repeat first | apply bN | apply bD | apply bA); refine bP (cs := #[.slice Ao147 l0.length co147, .bool false]) ?_ 1 _ rfl; (with_reducible repeat first | apply bN | apply bD | apply bA); refine bP (cs := #[.slice none 0 0, .bool false]) ?_ 0 _ rfl; (with_reducible repeat first | apply bN | apply bD | apply bA); exact BK189.out) Try.underlying95 rfl (by kernel_rfl)) rfl ?_
                 exact ⟨_, by first | rfl | (simp [errW_none, errW_some] <;> rfl) | (simp only [← hji9, ← hji46]; first | rfl | (simp [errW_none, errW_some] <;> rfl)) | (simp [*, errW_none, errW_some] <;> rfl), by (with_reducible repeat (first | apply zrA | apply zrN | apply zrD)); exact zrM (zrF (p := ⟨gb189, 1, none⟩) (zrF (p := ⟨gb189, 0, none⟩) (Kd.R_types HO_0.out BK189.out (by decide)) (fun _ hk => hk.2) (.slice Ao147 l0.length co147)) (fun _ hk => hk.2) (.bool false)) (fun _ hk => hk.1.1), by repeat (first | (with_reducible first | exact HB.out | apply lA | apply lN | apply lD | refine lS ?_ GE189.out | refine lS ?_ GE193.out | refine lS ?_ GE197.out | refine lS ?_ GE201.out | refine lS ?_ GE205.out | refine lS ?_ GE206.out) | exact HB.out), by repeat (first | (with_reducible first | exact HK.out | apply Kept.alloc | apply Kept.drewN | apply Kept.drew | refine Kept.setCell ?_ (.inr GW189.out) _ | refine Kept.setCell ?_ (.inr GW193.out) _ | refine Kept.setCell ?_ (.inr GW197.out) _ | refine Kept.setCell ?_ (.inr GW201.out) _ | refine Kept.setCell ?_ (.inr GW205.out) _ | refine Kept.setCell ?_ (.inr GW206.out) _) | exact HK.out)⟩
               ·replace c91 := Bool.eq_false_iff.mpr c91
                subst c91
                have H1 : (some (l0, false)) = some (r1, r2) := by rw [if_neg (show ¬ (false = true) by decide)] at H; exact H
                clear H
                have H := H1
                clear H1
                simp only [Option.some.injEq, Prod.mk.injEq] at H
                obtain ⟨rfl, rfl⟩ := H
                have hnb150 := NB193_189.out
                have hnc150 := NB189_193.out
                have hnb151 := NB193_197.out
                have hnc151 := NB197_193.out
                have hnb152 := NB193_201.out
                have hnc152 := NB201_193.out
                have hnb153 := NB193_205.out
                have hnc153 := NB205_193.out
                have hcz154_0 : wc.cell? ⟨gb193, 0, none⟩ = some (.string t190) := (bC BK193.out 0).trans rfl
                have hcz154_1 : wc.cell? ⟨gb193, 1, none⟩ = some (.int .i64 t191) := (bC BK193.out 1).trans rfl
                have hcz154_2 : wc.cell? ⟨gb193, 2, none⟩ = some (.int .i64 t192) := (bC BK193.out 2).trans rfl
                have hfz154_0 := bF BK193.out 0
                have hfz154_1 := bF BK193.out 1
                have hfz154_2 := bF BK193.out 2
                have hnb155 := NB197_189.out
                have hnc155 := NB189_197.out
                have hnb156 := NB197_201.out
                have hnc156 := NB201_197.out
                have hnb157 := NB197_205.out
                have hnc157 := NB205_197.out
                have hcz158_0 : wc.cell? ⟨gb197, 0, none⟩ = some (.string t194) := (bC BK197.out 0).trans rfl
                have hcz158_1 : wc.cell? ⟨gb197, 1, none⟩ = some (.int .i64 t195) := (bC BK197.out 1).trans rfl
                have hcz158_2 : wc.cell? ⟨gb197, 2, none⟩ = some (.int .i64 t196) := (bC BK197.out 2).trans rfl
                have hfz158_0 := bF BK197.out 0
                have hfz158_1 := bF BK197.out 1
                have hfz158_2 := bF BK197.out 2
                have hnb159 := NB201_189.out
                have hnc159 := NB189_201.out
                have hnb160 := NB201_205.out
                have hnc160 := NB205_201.out
                have hcz161_0 : wc.cell? ⟨gb201, 0, none⟩ = some (.int .u64 t198) := (bC BK201.out 0).trans rfl
                have hcz161_1 : wc.cell? ⟨gb201, 1, none⟩ = some (.int .i64 t199) := (bC BK201.out 1).trans rfl
                have hcz161_2 : wc.cell? ⟨gb201, 2, none⟩ = some (.int .i64 t200) := (bC BK201.out 2).trans rfl
                have hfz161_0 := bF BK201.out 0
                have hfz161_1 := bF BK201.out 1
                have hfz161_2 := bF BK201.out 2
                have hnb162 := NB205_189.out
                have hnc162 := NB189_205.out
                have hcz163_0 : wc.cell? ⟨gb205, 0, none⟩ = some (.int .u64 t202) := (bC BK205.out 0).trans rfl
                have hcz163_1 : wc.cell? ⟨gb205, 1, none⟩ = some (.int .i64 t203) := (bC BK205.out 1).trans rfl
                have hcz163_2 : wc.cell? ⟨gb205, 2, none⟩ = some (.int .i64 t204) := (bC BK205.out 2).trans rfl
                have hfz163_0 := bF BK205.out 0
                have hfz163_1 := bF BK205.out 1
                have hfz163_2 := bF BK205.out 2
                go_wp2_with (first | ((with_reducible refine gate_dst (N := 10) rfl ?_); (try (refine gate_guard (by rfl) ?_; dsimp only)); refine box_event ?hg (N := 10) ?hd (cs := #[.string (⟨#[]⟩ : ByteArray), .string (⟨#[]⟩ : ByteArray), .int .i64 0, .int .i64 0]) (t := 166) ?hr ?_; (case hd => rfl); (case hg => rfl); (case hr => first | (go_simp; done) | (go_simp; rfl)); intro gb206 hg w164 hbox hb; have n0_ := mkA (zrB (Kd.R_elderB (by (with_reducible repeat (first | apply zrA | apply zrN | apply zrD)); exact HO_0.out) gb206 (Nat.le_of_eq hg.symm)) hb); have n1_ := mkA (bB (g := gb189) (o := .cells #[.slice none 0 0, .bool false] 95 (0, 0)) (by (with_reducible repeat first | apply bN | apply bD | apply bA); exact BK189.out) hb); have n2_ := mkA (bB (g := gb193) (o := .cells #[.string t190, .int .i64 t191, .int .i64 t192] 173 (0, 0)) (by (with_reducible repeat first | apply bN | apply bD | apply bA); exact BK193.out) hb); have n3_ := mkA (bB (g := gb197) (o := .cells #[.string t194, .int .i64 t195, .int .i64 t196] 173 (0, 0)) (by (with_reducible repeat first | apply bN | apply bD | apply bA); exact BK197.out) hb); have n4_ := mkA (bB (g := gb201) (o := .cells #[.int .u64 t198, .int .i64 t199, .int .i64 t200] 216 (0, 0)) (by (with_reducible repeat first | apply bN | apply bD | apply bA); exact BK201.out) hb); have n5_ := mkA (bB (g := gb205) (o := .cells #[.int .u64 t202, .int .i64 t203, .int .i64 t204] 216 (0, 0)) (by (with_reducible repeat first | apply bN | apply bD | apply bA); exact BK205.out) hb); have n6_ := mkA (Kept.below (S := (fun k_ => P0_ k_)) (by repeat (first | (with_reducible first | exact HK.out | apply Kept.alloc | apply Kept.drewN | apply Kept.drew | refine Kept.setCell ?_ (.inr GW189.out) _ | refine Kept.setCell ?_ (.inr GW193.out) _ | refine Kept.setCell ?_ (.inr GW197.out) _ | refine Kept.setCell ?_ (.inr GW201.out) _ | refine Kept.setCell ?_ (.inr GW205.out) _) | exact HK.out)) hb); have n7_ := mkA (zbS (by repeat (first | (with_reducible first | exact HB.out | apply lA | apply lN | apply lD | refine lS ?_ GE189.out | refine lS ?_ GE193.out | refine lS ?_ GE197.out | refine lS ?_ GE201.out | refine lS ?_ GE205.out) | exact HB.out)) hb); have n8_ := mkA (hbox); have n9_ := mkA ((by rw [hg]; exact (by first | exact HK.out.1 | exact (show Kept w _ (fun k_ => P0_ k_) from by repeat (first | (with_reducible first | exact HK.out | apply Kept.alloc | apply Kept.drewN | apply Kept.drew | refine Kept.setCell ?_ (.inr GW189.out) _ | refine Kept.setCell ?_ (.inr GW193.out) _ | refine Kept.setCell ?_ (.inr GW197.out) _ | refine Kept.setCell ?_ (.inr GW201.out) _ | refine Kept.setCell ?_ (.inr GW205.out) _) | exact HK.out)).1) : w.heap.size ≤ gb206)); have n10_ := mkA ((by rw [hg]; exact (below_size (by repeat (first | (with_reducible first | exact HB.out | apply lA | apply lN | apply lD | refine lS ?_ GE189.out | refine lS ?_ GE193.out | refine lS ?_ GE197.out | refine lS ?_ GE201.out | refine lS ?_ GE205.out) | exact HB.out))) : w0.heap.size ≤ gb206)); have n11_ := mkA ((by rw [hg]; exact Nat.ne_of_lt (blk_lt (g := gb189) (o := .cells #[.slice none 0 0, .bool false] 95 (0, 0)) (by (with_reducible repeat first | apply bN | apply bD | apply bA); exact BK189.out)) : gb189 ≠ gb206)); have n12_ := mkA ((by rw [hg]; exact Nat.ne_of_gt (blk_lt (g := gb189) (o := .cells #[.slice none 0 0, .bool false] 95 (0, 0)) (by (with_reducible repeat first | apply bN | apply bD | apply bA); exact BK189.out)) : gb206 ≠ gb189)); have n13_ := mkA ((by rw [hg]; exact Nat.ne_of_lt (blk_lt (g := gb193) (o := .cells #[.string t190, .int .i64 t191, .int .i64 t192] 173 (0, 0)) (by (with_reducible repeat first | apply bN | apply bD | apply bA); exact BK193.out)) : gb193 ≠ gb206)); have n14_ := mkA ((by rw [hg]; exact Nat.ne_of_gt (blk_lt (g := gb193) (o := .cells #[.string t190, .int .i64 t191, .int .i64 t192] 173 (0, 0)) (by (with_reducible repeat first | apply bN | apply bD | apply bA); exact BK193.out)) : gb206 ≠ gb193)); have n15_ := mkA ((by rw [hg]; exact Nat.ne_of_lt (blk_lt (g := gb197) (o := .cells #[.string t194, .int .i64 t195, .int .i64 t196] 173 (0, 0)) (by (with_reducible repeat first | apply bN | apply bD | apply bA); exact BK197.out)) : gb197 ≠ gb206)); have n16_ := mkA ((by rw [hg]; exact Nat.ne_of_gt (blk_lt (g := gb197) (o := .cells #[.string t194, .int .i64 t195, .int .i64 t196] 173 (0, 0)) (by (with_reducible repeat first | apply bN | apply bD | apply bA); exact BK197.out)) : gb206 ≠ gb197)); have n17_ := mkA ((by rw [hg]; exact Nat.ne_of_lt (blk_lt (g := gb201) (o := .cells #[.int .u64 t198, .int .i64 t199, .int .i64 t200] 216 (0, 0)) (by (with_reducible repeat first | apply bN | apply bD | apply bA); exact BK201.out)) : gb201 ≠ gb206)); have n18_ := mkA ((by rw [hg]; exact Nat.ne_of_gt (blk_lt (g := gb201) (o := .cells #[.int .u64 t198, .int .i64 t199, .int .i64 t200] 216 (0, 0)) (by (with_reducible repeat first | apply bN | apply bD | apply bA); exact BK201.out)) : gb206 ≠ gb201)); have n19_ := mkA ((by rw [hg]; exact Nat.ne_of_lt (blk_lt (g := gb205) (o := .cells #[.int .u64 t202, .int .i64 t203, .int .i64 t204] 216 (0, 0)) (by (with_reducible repeat first | apply bN | apply bD | apply bA); exact BK205.out)) : gb205 ≠ gb206)); have n20_ := mkA ((by rw [hg]; exact Nat.ne_of_gt (blk_lt (g := gb205) (o := .cells #[.int .u64 t202, .int .i64 t203, .int .i64 t204] 216 (0, 0)) (by (with_reducible repeat first | apply bN | apply bD | apply bA); exact BK205.out)) : gb206 ≠ gb205)); clear HO_0; clear BK189; clear BK193; clear BK197; clear BK201; clear BK205; clear HK; clear HB; have HO_0 := n0_; have BK189 := n1_; have BK193 := n2_; have BK197 := n3_; have BK201 := n4_; have BK205 := n5_; have HK := n6_; have HB := n7_; have BK206 := n8_; have GW206 := n9_; have GE206 := n10_; have NB189_206 := n11_; have NB206_189 := n12_; have NB193_206 := n13_; have NB206_193 := n14_; have NB197_206 := n15_; have NB206_197 := n16_; have NB201_206 := n17_; have NB206_201 := n18_; have NB205_206 := n19_; have NB206_205 := n20_; clear n0_ n1_ n2_ n3_ n4_ n5_ n6_ n7_ n8_ n9_ n10_ n11_ n12_ n13_ n14_ n15_ n16_ n17_ n18_ n19_ n20_; clear hb hbox hg; have hnb165 := NB206_189.out; have hnc165 := NB189_206.out; have hnb166 := NB206_193.out; have hnc166 := NB193_206.out; have hnb167 := NB206_197.out; have hnc167 := NB197_206.out; have hnb168 := NB206_201.out; have hnc168 := NB201_206.out; have hnb169 := NB206_205.out; have hnc169 := NB205_206.out; have hcz170_0 : w164.cell? ⟨gb206, 0, none⟩ = some (.string (⟨#[]⟩ : ByteArray)) := (bC BK206.out 0).trans rfl; have hcz170_1 : w164.cell? ⟨gb206, 1, none⟩ = some (.string (⟨#[]⟩ : ByteArray)) := (bC BK206.out 1).trans rfl; have hcz170_2 : w164.cell? ⟨gb206, 2, none⟩ = some (.int .i64 0) := (bC BK206.out 2).trans rfl; have hcz170_3 : w164.cell? ⟨gb206, 3, none⟩ = some (.int .i64 0) := (bC BK206.out 3).trans rfl; have hfz170_0 := bF BK206.out 0; have hfz170_1 := bF BK206.out 1; have hfz170_2 := bF BK206.out 2; have hfz170_3 := bF BK206.out 3) | ((with_reducible refine gate_callee (f := 100) rfl ?_); refine goesL_ (some 89) rfl rfl Try.func100 (by kernel_rfl) rfl #[.agg #[.string t190, .string t194, .int .i64 (wrap64 (t198)), .int .i64 (wrap64 (t202))]] rfl (by (try simp only [List.map_toArray, List.map_cons, List.map_nil]); first | done | rfl | (simp only [List.length_drop, List.length_take]; rfl)) ?_; (with_reducible refine (weighlockref24_May.calls kj49 t190 t194 (wrap64 (t198)) (wrap64 (t202)) false _ A90.out).mono ?_); rintro e w171 ⟨rfl, hb⟩; refine ⟨_, rfl, ?_⟩; have n0_ := mkA (zrB (by (with_reducible repeat (first | apply zrA | apply zrN | apply zrD)); exact (zrM (zrF (p := ⟨gb206, 3, none⟩) (zrF (p := ⟨gb206, 2, none⟩) (zrF (p := ⟨gb206, 1, none⟩) (zrF (p := ⟨gb206, 0, none⟩) (zrM HO_0.out (fun k_ hk => (⟨hk, hk.2⟩ : _ ∧ k_ ≠ gb206))) (fun _ hk => hk.2) (.string t190)) (fun _ hk => hk.2) (.string t194)) (fun _ hk => hk.2) (.int .i64 (wrap64 (t198)))) (fun _ hk => hk.2) (.int .i64 (wrap64 (t202)))) (fun _ h_ => h_.1))) hb); have n1_ := mkA (bB (g := gb189) (o := .cells #[.slice none 0 0, .bool false] 95 (0, 0)) (by (with_reducible repeat first | apply bN | apply bD | apply bA); refine bR ?_ NB189_206.out _; (with_reducible repeat first | apply bN | apply bD | apply bA); refine bR ?_ NB189_206.out _; (with_reducible repeat first | apply bN | apply bD | apply bA); refine bR ?_ NB189_206.out _; (with_reducible repeat first | apply bN | apply bD | apply bA); refine bR ?_ NB189_206.out _; (with_reducible repeat first | apply bN | apply bD | apply bA); exact BK189.out) hb); have n2_ := mkA (bB (g := gb193) (o := .cells #[.string t190, .int .i64 t191, .int .i64 t192] 173 (0, 0)) (by (with_reducible repeat first | apply bN | apply bD | apply bA); refine bR ?_ NB193_206.out _; (with_reducible repeat first | apply bN | apply bD | apply bA); refine bR ?_ NB193_206.out _; (with_reducible repeat first | apply bN | apply bD | apply bA); refine bR ?_ NB193_206.out _; (with_reducible repeat first | apply bN | apply bD | apply bA); refine bR ?_ NB193_206.out _; (with_reducible repeat first | apply bN | apply bD | apply bA); exact BK193.out) hb); have n3_ := mkA (bB (g := gb197) (o := .cells #[.string t194, .int .i64 t195, .int .i64 t196] 173 (0, 0)) (by (with_reducible repeat first | apply bN | apply bD | apply bA); refine bR ?_ NB197_206.out _; (with_reducible repeat first | apply bN | apply bD | apply bA); refine bR ?_ NB197_206.out _; (with_reducible repeat first | apply bN | apply bD | apply bA); refine bR ?_ NB197_206.out _; (with_reducible repeat first | apply bN | apply bD | apply bA); refine bR ?_ NB197_206.out _; (with_reducible repeat first | apply bN | apply bD | apply bA); exact BK197.out) hb); have n4_ := mkA (bB (g := gb201) (o := .cells #[.int .u64 t198, .int .i64 t199, .int .i64 t200] 216 (0, 0)) (by (with_reducible repeat first | apply bN | apply bD | apply bA); refine bR ?_ NB201_206.out _; (with_reducible repeat first | apply bN | apply bD | apply bA); refine bR ?_ NB201_206.out _; (with_reducible repeat first | apply bN | apply bD | apply bA); refine bR ?_ NB201_206.out _; (with_reducible repeat first | apply bN | apply bD | apply bA); refine bR ?_ NB201_206.out _; (with_reducible repeat first | apply bN | apply bD | apply bA); exact BK201.out) hb); have n5_ := mkA (bB (g := gb205) (o := .cells #[.int .u64 t202, .int .i64 t203, .int .i64 t204] 216 (0, 0)) (by (with_reducible repeat first | apply bN | apply bD | apply bA); refine bR ?_ NB205_206.out _; (with_reducible repeat first | apply bN | apply bD | apply bA); refine bR ?_ NB205_206.out _; (with_reducible repeat first | apply bN | apply bD | apply bA); refine bR ?_ NB205_206.out _; (with_reducible repeat first | apply bN | apply bD | apply bA); refine bR ?_ NB205_206.out _; (with_reducible repeat first | apply bN | apply bD | apply bA); exact BK205.out) hb); have n6_ := mkA (bB (g := gb206) (o := .cells #[.string t190, .string t194, .int .i64 (wrap64 (t198)), .int .i64 (wrap64 (t202))] 166 (0, 0)) (by (with_reducible repeat first | apply bN | apply bD | apply bA); refine bP (cs := #[.string t190, .string t194, .int .i64 (wrap64 (t198)), .int .i64 0]) ?_ 3 _ rfl; (with_reducible repeat first | apply bN | apply bD | apply bA); refine bP (cs := #[.string t190, .string t194, .int .i64 0, .int .i64 0]) ?_ 2 _ rfl; (with_reducible repeat first | apply bN | apply bD | apply bA); refine bP (cs := #[.string t190, .string (⟨#[]⟩ : ByteArray), .int .i64 0, .int .i64 0]) ?_ 1 _ rfl; (with_reducible repeat first | apply bN | apply bD | apply bA); refine bP (cs := #[.string (⟨#[]⟩ : ByteArray), .string (⟨#[]⟩ : ByteArray), .int .i64 0, .int .i64 0]) ?_ 0 _ rfl; (with_reducible repeat first | apply bN | apply bD | apply bA); exact BK206.out) hb); have n7_ := mkA (Kept.below (S := (fun k_ => P0_ k_)) (by repeat (first | (with_reducible first | exact HK.out | apply Kept.alloc | apply Kept.drewN | apply Kept.drew | refine Kept.setCell ?_ (.inr GW189.out) _ | refine Kept.setCell ?_ (.inr GW193.out) _ | refine Kept.setCell ?_ (.inr GW197.out) _ | refine Kept.setCell ?_ (.inr GW201.out) _ | refine Kept.setCell ?_ (.inr GW205.out) _ | refine Kept.setCell ?_ (.inr GW206.out) _) | exact HK.out)) hb); have n8_ := mkA (zbS (by repeat (first | (with_reducible first | exact HB.out | apply lA | apply lN | apply lD | refine lS ?_ GE189.out | refine lS ?_ GE193.out | refine lS ?_ GE197.out | refine lS ?_ GE201.out | refine lS ?_ GE205.out | refine lS ?_ GE206.out) | exact HB.out)) hb); clear HO_0; clear BK189; clear BK193; clear BK197; clear BK201; clear BK205; clear BK206; clear HK; clear HB; have HO_0 := n0_; have BK189 := n1_; have BK193 := n2_; have BK197 := n3_; have BK201 := n4_; have BK205 := n5_; have BK206 := n6_; have HK := n7_; have HB := n8_; clear n0_ n1_ n2_ n3_ n4_ n5_ n6_ n7_ n8_; (try clear hb); (try clear hb2); (try clear hk); (try clear hi); obtain ⟨Ao172, co172, eo172⟩ := Kd.R_slice HO_0.out; subst eo172; have hcz173_0 : w171.cell? ⟨gb189, 0, none⟩ = some (.slice none 0 0) := (bC BK189.out 0).trans rfl; have hcz173_1 : w171.cell? ⟨gb189, 1, none⟩ = some (.bool false) := (bC BK189.out 1).trans rfl; have hfz173_0 := bF BK189.out 0; have hfz173_1 := bF BK189.out 1))
                refine bodyPost_ret (results_cell_row rfl _ _ gb189 95 #[.slice Ao172 l0.length co172, .bool false] (0, 0) _ rfl (by (with_reducible repeat first | apply bN | apply bD | apply bA); refine bP (cs := #[.slice Ao172 l0.length co172, .bool false]) ?_ 1 _ rfl; (with_reducible repeat first | apply bN | apply bD | apply bA); refine bP (cs := #[.slice none 0 0, .bool false]) ?_ 0 _ rfl; (with_reducible repeat first | apply bN | apply bD | apply bA); exact BK189.out) Try.underlying95 rfl (by kernel_rfl)) rfl ?_
                exact ⟨_, by first | rfl | (simp [errW_none, errW_some] <;> rfl) | (simp only [← hji9, ← hji46]; first | rfl | (simp [errW_none, errW_some] <;> rfl)) | (simp [*, errW_none, errW_some] <;> rfl), by (with_reducible repeat (first | apply zrA | apply zrN | apply zrD)); exact zrM (zrF (p := ⟨gb189, 1, none⟩) (zrF (p := ⟨gb189, 0, none⟩) (Kd.R_types HO_0.out BK189.out (by decide)) (fun _ hk => hk.2) (.slice Ao172 l0.length co172)) (fun _ hk => hk.2) (.bool false)) (fun _ hk => hk.1.1), by repeat (first | (with_reducible first | exact HB.out | apply lA | apply lN | apply lD | refine lS ?_ GE189.out | refine lS ?_ GE193.out | refine lS ?_ GE197.out | refine lS ?_ GE201.out | refine lS ?_ GE205.out | refine lS ?_ GE206.out) | exact HB.out), by repeat (first | (with_reducible first | exact HK.out | apply Kept.alloc | apply Kept.drewN | apply Kept.drew | refine Kept.setCell ?_ (.inr GW189.out) _ | refine Kept.setCell ?_ (.inr GW193.out) _ | refine Kept.setCell ?_ (.inr GW197.out) _ | refine Kept.setCell ?_ (.inr GW201.out) _ | refine Kept.setCell ?_ (.inr GW205.out) _ | refine Kept.setCell ?_ (.inr GW206.out) _) | exact HK.out)⟩
           ·rw [if_neg c48] at H
            exact absurd H (by simp)
          ·rw [if_neg c47] at H
           exact absurd H (by simp)
      ·rw [if_neg c11] at H
       exact absurd H (by simp)
     ·rw [if_neg c10] at H
      exact absurd H (by simp)
    ·rw [if_neg c8] at H
     have c8b0 : (t196 == 0) = false := beq_eq_false_iff_ne.mpr c8
     have c8b1 : (t196 != 0) = true := bne_iff_ne.mpr c8
     simp only [Option.some.injEq, Prod.mk.injEq] at H
     obtain ⟨rfl, rfl⟩ := H
     go_enter Try.func103, Try.ntmps103
     go_wp2_with (first | ((with_reducible refine gate_dst (N := 4) rfl ?_); (try (refine gate_guard (by rfl) ?_; dsimp only)); refine box_event ?hg (N := 4) ?hd (cs := #[.slice none 0 0, .bool false]) (t := 95) ?hr ?_; (case hd => rfl); (case hg => rfl); (case hr => first | (go_simp; done) | (go_simp; rfl)); intro gb189 hg w174 hbox hb; have n0_ := mkA (zrB (by (with_reducible repeat (first | apply zrA | apply zrN | apply zrD)); exact HO0.out) hb); have n1_ := mkA (Kept.below (S := (fun k_ => P0_ k_)) (by repeat (first | (with_reducible first | exact HK.out | apply Kept.alloc | apply Kept.drewN | apply Kept.drew) | exact HK.out)) hb); have n2_ := mkA (zbS (by repeat (first | (with_reducible first | exact HB.out | apply lA | apply lN | apply lD) | exact HB.out)) hb); have n3_ := mkA (hbox); have n4_ := mkA ((by rw [hg]; exact (by first | exact HK.out.1 | exact (show Kept w _ (fun k_ => P0_ k_) from by repeat (first | (with_reducible first | exact HK.out | apply Kept.alloc | apply Kept.drewN | apply Kept.drew) | exact HK.out)).1) : w.heap.size ≤ gb189)); have n5_ := mkA ((by rw [hg]; exact (below_size (by repeat (first | (with_reducible first | exact HB.out | apply lA | apply lN | apply lD) | exact HB.out))) : w0.heap.size ≤ gb189)); clear HO0; clear HK; clear HB; have HO0 := n0_; have HK := n1_; have HB := n2_; have BK189 := n3_; have GW189 := n4_; have GE189 := n5_; clear n0_ n1_ n2_ n3_ n4_ n5_; clear hb hbox hg) | ((with_reducible refine gate_callee (f := 104) rfl ?_); refine goesL_ (some 12) rfl rfl Try.func104 (by kernel_rfl) rfl #[.string a1] rfl (by (try simp only [List.map_toArray, List.map_cons, List.map_nil]); first | done | rfl | (simp only [List.length_drop, List.length_take]; rfl)) ?_; (with_reducible refine (weighlockref01_Untext.calls k a1 t190 t191 t192 _ A3.out).mono ?_); rintro e w175 ⟨rfl, hb⟩; refine ⟨_, rfl, ?_⟩; have n0_ := mkA (zrB (by (with_reducible repeat (first | apply zrA | apply zrN | apply zrD)); exact HO0.out) hb); have n1_ := mkA (bB (g := gb189) (o := .cells #[.slice none 0 0, .bool false] 95 (0, 0)) (by (with_reducible repeat first | apply bN | apply bD | apply bA); exact BK189.out) hb); have n2_ := mkA (Kept.below (S := (fun k_ => P0_ k_)) (by repeat (first | (with_reducible first | exact HK.out | apply Kept.alloc | apply Kept.drewN | apply Kept.drew | refine Kept.setCell ?_ (.inr GW189.out) _) | exact HK.out)) hb); have n3_ := mkA (zbS (by repeat (first | (with_reducible first | exact HB.out | apply lA | apply lN | apply lD | refine lS ?_ GE189.out) | exact HB.out)) hb); clear HO0; clear BK189; clear HK; clear HB; have HO0 := n0_; have BK189 := n1_; have HK := n2_; have HB := n3_; clear n0_ n1_ n2_ n3_; (try clear hb); (try clear hb2); (try clear hk); (try clear hi)) | ((with_reducible refine gate_dst (N := 5) rfl ?_); (try (refine gate_guard (by rfl) ?_; dsimp only)); refine box_event ?hg (N := 5) ?hd (cs := #[.string (⟨#[]⟩ : ByteArray), .int .i64 0, .int .i64 0]) (t := 173) ?hr ?_; (case hd => rfl); (case hg => rfl); (case hr => first | (go_simp; done) | (go_simp; rfl)); intro gb193 hg w176 hbox hb; have n0_ := mkA (zrB (by (with_reducible repeat (first | apply zrA | apply zrN | apply zrD)); exact HO0.out) hb); have n1_ := mkA (bB (g := gb189) (o := .cells #[.slice none 0 0, .bool false] 95 (0, 0)) (by (with_reducible repeat first | apply bN | apply bD | apply bA); exact BK189.out) hb); have n2_ := mkA (Kept.below (S := (fun k_ => P0_ k_)) (by repeat (first | (with_reducible first | exact HK.out | apply Kept.alloc | apply Kept.drewN | apply Kept.drew | refine Kept.setCell ?_ (.inr GW189.out) _) | exact HK.out)) hb); have n3_ := mkA (zbS (by repeat (first | (with_reducible first | exact HB.out | apply lA | apply lN | apply lD | refine lS ?_ GE189.out) | exact HB.out)) hb); have n4_ := mkA (hbox); have n5_ := mkA ((by rw [hg]; exact (by first | exact HK.out.1 | exact (show Kept w _ (fun k_ => P0_ k_) from by repeat (first | (with_reducible first | exact HK.out | apply Kept.alloc | apply Kept.drewN | apply Kept.drew | refine Kept.setCell ?_ (.inr GW189.out) _) | exact HK.out)).1) : w.heap.size ≤ gb193)); have n6_ := mkA ((by rw [hg]; exact (below_size (by repeat (first | (with_reducible first | exact HB.out | apply lA | apply lN | apply lD | refine lS ?_ GE189.out) | exact HB.out))) : w0.heap.size ≤ gb193)); have n7_ := mkA ((by rw [hg]; exact Nat.ne_of_lt (blk_lt (g := gb189) (o := .cells #[.slice none 0 0, .bool false] 95 (0, 0)) (by (with_reducible repeat first | apply bN | apply bD | apply bA); exact BK189.out)) : gb189 ≠ gb193)); have n8_ := mkA ((by rw [hg]; exact Nat.ne_of_gt (blk_lt (g := gb189) (o := .cells #[.slice none 0 0, .bool false] 95 (0, 0)) (by (with_reducible repeat first | apply bN | apply bD | apply bA); exact BK189.out)) : gb193 ≠ gb189)); clear HO0; clear BK189; clear HK; clear HB; have HO0 := n0_; have BK189 := n1_; have HK := n2_; have HB := n3_; have BK193 := n4_; have GW193 := n5_; have GE193 := n6_; have NB189_193 := n7_; have NB193_189 := n8_; clear n0_ n1_ n2_ n3_ n4_ n5_ n6_ n7_ n8_; clear hb hbox hg; have hnb177 := NB193_189.out; have hnc177 := NB189_193.out; have hcz178_0 : w176.cell? ⟨gb193, 0, none⟩ = some (.string (⟨#[]⟩ : ByteArray)) := (bC BK193.out 0).trans rfl; have hcz178_1 : w176.cell? ⟨gb193, 1, none⟩ = some (.int .i64 0) := (bC BK193.out 1).trans rfl; have hcz178_2 : w176.cell? ⟨gb193, 2, none⟩ = some (.int .i64 0) := (bC BK193.out 2).trans rfl; have hfz178_0 := bF BK193.out 0; have hfz178_1 := bF BK193.out 1; have hfz178_2 := bF BK193.out 2) | ((with_reducible refine gate_callee (f := 104) rfl ?_); refine goesL_ (some 22) rfl rfl Try.func104 (by kernel_rfl) rfl #[.string (a1.extract (t191 : Int).toNat a1.size)] rfl (by (try simp only [List.map_toArray, List.map_cons, List.map_nil]); first | done | rfl | (simp only [List.length_drop, List.length_take]; rfl)) ?_; (with_reducible refine (weighlockref01_Untext.calls k (a1.extract (t191 : Int).toNat a1.size) t194 t195 t196 _ A7.out).mono ?_); rintro e w179 ⟨rfl, hb⟩; refine ⟨_, rfl, ?_⟩; have n0_ := mkA (zrB (by (with_reducible repeat (first | apply zrA | apply zrN | apply zrD)); exact (zrM (zrF (p := ⟨gb193, 2, none⟩) (zrF (p := ⟨gb193, 1, none⟩) (zrF (p := ⟨gb193, 0, none⟩) (Kd.R_types HO0.out BK193.out (by decide)) (fun _ hk => hk.2) (.string t190)) (fun _ hk => hk.2) (.int .i64 t191)) (fun _ hk => hk.2) (.int .i64 t192)) (fun _ h_ => h_.1))) hb); have n1_ := mkA (bB (g := gb189) (o := .cells #[.slice none 0 0, .bool false] 95 (0, 0)) (by (with_reducible repeat first | apply bN | apply bD | apply bA); refine bR ?_ NB189_193.out _; (with_reducible repeat first | apply bN | apply bD | apply bA); refine bR ?_ NB189_193.out _; (with_reducible repeat first | apply bN | apply bD | apply bA); refine bR ?_ NB189_193.out _; (with_reducible repeat first | apply bN | apply bD | apply bA); exact BK189.out) hb); have n2_ := mkA (bB (g := gb193) (o := .cells #[.string t190, .int .i64 t191, .int .i64 t192] 173 (0, 0)) (by (with_reducible repeat first | apply bN | apply bD | apply bA); refine bP (cs := #[.string t190, .int .i64 t191, .int .i64 0]) ?_ 2 _ rfl; (with_reducible repeat first | apply bN | apply bD | apply bA); refine bP (cs := #[.string t190, .int .i64 0, .int .i64 0]) ?_ 1 _ rfl; (with_reducible repeat first | apply bN | apply bD | apply bA); refine bP (cs := #[.string (⟨#[]⟩ : ByteArray), .int .i64 0, .int .i64 0]) ?_ 0 _ rfl; (with_reducible repeat first | apply bN | apply bD | apply bA); exact BK193.out) hb); have n3_ := mkA (Kept.below (S := (fun k_ => P0_ k_)) (by repeat (first | (with_reducible first | exact HK.out | apply Kept.alloc | apply Kept.drewN | apply Kept.drew | refine Kept.setCell ?_ (.inr GW189.out) _ | refine Kept.setCell ?_ (.inr GW193.out) _) | exact HK.out)) hb); have n4_ := mkA (zbS (by repeat (first | (with_reducible first | exact HB.out | apply lA | apply lN | apply lD | refine lS ?_ GE189.out | refine lS ?_ GE193.out) | exact HB.out)) hb); clear HO0; clear BK189; clear BK193; clear HK; clear HB; have HO0 := n0_; have BK189 := n1_; have BK193 := n2_; have HK := n3_; have HB := n4_; clear n0_ n1_ n2_ n3_ n4_; (try clear hb); (try clear hb2); (try clear hk); (try clear hi)) | ((with_reducible refine gate_dst (N := 6) rfl ?_); (try (refine gate_guard (by rfl) ?_; dsimp only)); refine box_event ?hg (N := 6) ?hd (cs := #[.string (⟨#[]⟩ : ByteArray), .int .i64 0, .int .i64 0]) (t := 173) ?hr ?_; (case hd => rfl); (case hg => rfl); (case hr => first | (go_simp; done) | (go_simp; rfl)); intro gb197 hg w180 hbox hb; have n0_ := mkA (zrB (by (with_reducible repeat (first | apply zrA | apply zrN | apply zrD)); exact HO0.out) hb); have n1_ := mkA (bB (g := gb189) (o := .cells #[.slice none 0 0, .bool false] 95 (0, 0)) (by (with_reducible repeat first | apply bN | apply bD | apply bA); exact BK189.out) hb); have n2_ := mkA (bB (g := gb193) (o := .cells #[.string t190, .int .i64 t191, .int .i64 t192] 173 (0, 0)) (by (with_reducible repeat first | apply bN | apply bD | apply bA); exact BK193.out) hb); have n3_ := mkA (Kept.below (S := (fun k_ => P0_ k_)) (by repeat (first | (with_reducible first | exact HK.out | apply Kept.alloc | apply Kept.drewN | apply Kept.drew | refine Kept.setCell ?_ (.inr GW189.out) _ | refine Kept.setCell ?_ (.inr GW193.out) _) | exact HK.out)) hb); have n4_ := mkA (zbS (by repeat (first | (with_reducible first | exact HB.out | apply lA | apply lN | apply lD | refine lS ?_ GE189.out | refine lS ?_ GE193.out) | exact HB.out)) hb); have n5_ := mkA (hbox); have n6_ := mkA ((by rw [hg]; exact (by first | exact HK.out.1 | exact (show Kept w _ (fun k_ => P0_ k_) from by repeat (first | (with_reducible first | exact HK.out | apply Kept.alloc | apply Kept.drewN | apply Kept.drew | refine Kept.setCell ?_ (.inr GW189.out) _ | refine Kept.setCell ?_ (.inr GW193.out) _) | exact HK.out)).1) : w.heap.size ≤ gb197)); have n7_ := mkA ((by rw [hg]; exact (below_size (by repeat (first | (with_reducible first | exact HB.out | apply lA | apply lN | apply lD | refine lS ?_ GE189.out | refine lS ?_ GE193.out) | exact HB.out))) : w0.heap.size ≤ gb197)); have n8_ := mkA ((by rw [hg]; exact Nat.ne_of_lt (blk_lt (g := gb189) (o := .cells #[.slice none 0 0, .bool false] 95 (0, 0)) (by (with_reducible repeat first | apply bN | apply bD | apply bA); exact BK189.out)) : gb189 ≠ gb197)); have n9_ := mkA ((by rw [hg]; exact Nat.ne_of_gt (blk_lt (g := gb189) (o := .cells #[.slice none 0 0, .bool false] 95 (0, 0)) (by (with_reducible repeat first | apply bN | apply bD | apply bA); exact BK189.out)) : gb197 ≠ gb189)); have n10_ := mkA ((by rw [hg]; exact Nat.ne_of_lt (blk_lt (g := gb193) (o := .cells #[.string t190, .int .i64 t191, .int .i64 t192] 173 (0, 0)) (by (with_reducible repeat first | apply bN | apply bD | apply bA); exact BK193.out)) : gb193 ≠ gb197)); have n11_ := mkA ((by rw [hg]; exact Nat.ne_of_gt (blk_lt (g := gb193) (o := .cells #[.string t190, .int .i64 t191, .int .i64 t192] 173 (0, 0)) (by (with_reducible repeat first | apply bN | apply bD | apply bA); exact BK193.out)) : gb197 ≠ gb193)); clear HO0; clear BK189; clear BK193; clear HK; clear HB; have HO0 := n0_; have BK189 := n1_; have BK193 := n2_; have HK := n3_; have HB := n4_; have BK197 := n5_; have GW197 := n6_; have GE197 := n7_; have NB189_197 := n8_; have NB197_189 := n9_; have NB193_197 := n10_; have NB197_193 := n11_; clear n0_ n1_ n2_ n3_ n4_ n5_ n6_ n7_ n8_ n9_ n10_ n11_; clear hb hbox hg; have hnb181 := NB197_189.out; have hnc181 := NB189_197.out; have hnb182 := NB197_193.out; have hnc182 := NB193_197.out; have hcz183_0 : w180.cell? ⟨gb197, 0, none⟩ = some (.string (⟨#[]⟩ : ByteArray)) := (bC BK197.out 0).trans rfl; have hcz183_1 : w180.cell? ⟨gb197, 1, none⟩ = some (.int .i64 0) := (bC BK197.out 1).trans rfl; have hcz183_2 : w180.cell? ⟨gb197, 2, none⟩ = some (.int .i64 0) := (bC BK197.out 2).trans rfl; have hfz183_0 := bF BK197.out 0; have hfz183_1 := bF BK197.out 1; have hfz183_2 := bF BK197.out 2; obtain ⟨Ao184, co184, eo184⟩ := Kd.R_slice HO0.out; subst eo184; have hcz185_0 : w180.cell? ⟨gb189, 0, none⟩ = some (.slice none 0 0) := (bC BK189.out 0).trans rfl; have hcz185_1 : w180.cell? ⟨gb189, 1, none⟩ = some (.bool false) := (bC BK189.out 1).trans rfl; have hfz185_0 := bF BK189.out 0; have hfz185_1 := bF BK189.out 1))
     refine bodyPost_ret (results_cell_row rfl _ _ gb189 95 #[.slice Ao184 l0.length co184, .bool false] (0, 0) _ rfl (by (with_reducible repeat first | apply bN | apply bD | apply bA); refine bP (cs := #[.slice Ao184 l0.length co184, .bool false]) ?_ 1 _ rfl; (with_reducible repeat first | apply bN | apply bD | apply bA); refine bP (cs := #[.slice none 0 0, .bool false]) ?_ 0 _ rfl; (with_reducible repeat first | apply bN | apply bD | apply bA); refine bR ?_ NB189_197.out _; (with_reducible repeat first | apply bN | apply bD | apply bA); refine bR ?_ NB189_197.out _; (with_reducible repeat first | apply bN | apply bD | apply bA); refine bR ?_ NB189_197.out _; (with_reducible repeat first | apply bN | apply bD | apply bA); exact BK189.out) Try.underlying95 rfl (by kernel_rfl)) rfl ?_
     exact ⟨_, by first | rfl | (simp [errW_none, errW_some] <;> rfl) | (simp [*, errW_none, errW_some] <;> rfl), by (with_reducible repeat (first | apply zrA | apply zrN | apply zrD)); exact zrM (zrF (p := ⟨gb189, 1, none⟩) (zrF (p := ⟨gb189, 0, none⟩) (zrF (p := ⟨gb197, 2, none⟩) (zrF (p := ⟨gb197, 1, none⟩) (zrF (p := ⟨gb197, 0, none⟩) (Kd.R_types (Kd.R_types HO0.out BK197.out (by decide)) BK189.out (by decide)) (fun _ hk => hk.1.2) (.string t194)) (fun _ hk => hk.1.2) (.int .i64 t195)) (fun _ hk => hk.1.2) (.int .i64 t196)) (fun _ hk => hk.2) (.slice Ao184 l0.length co184)) (fun _ hk => hk.2) (.bool false)) (fun _ hk => hk.1.1), by repeat (first | (with_reducible first | exact HB.out | apply lA | apply lN | apply lD | refine lS ?_ GE189.out | refine lS ?_ GE193.out | refine lS ?_ GE197.out) | exact HB.out), by repeat (first | (with_reducible first | exact HK.out | apply Kept.alloc | apply Kept.drewN | apply Kept.drew | refine Kept.setCell ?_ (.inr GW189.out) _ | refine Kept.setCell ?_ (.inr GW193.out) _ | refine Kept.setCell ?_ (.inr GW197.out) _) | exact HK.out)⟩
   ·rw [if_neg c6] at H
    exact absurd H (by simp)
  ·rw [if_neg c5] at H
   exact absurd H (by simp)
 ·rw [if_neg c4] at H
  have c4b0 : (t192 == 0) = false := beq_eq_false_iff_ne.mpr c4
  have c4b1 : (t192 != 0) = true := bne_iff_ne.mpr c4
  simp only [Option.some.injEq, Prod.mk.injEq] at H
  obtain ⟨rfl, rfl⟩ := H
  go_enter Try.func103, Try.ntmps103
  go_wp2_with (first | ((with_reducible refine gate_dst (N := 4) rfl ?_); (try (refine gate_guard (by rfl) ?_; dsimp only)); refine box_event ?hg (N := 4) ?hd (cs := #[.slice none 0 0, .bool false]) (t := 95) ?hr ?_; (case hd => rfl); (case hg => rfl); (case hr => first | (go_simp; done) | (go_simp; rfl)); intro gb189 hg w186 hbox hb; have n0_ := mkA (zrB (by (with_reducible repeat (first | apply zrA | apply zrN | apply zrD)); exact HO0.out) hb); have n1_ := mkA (Kept.below (S := (fun k_ => P0_ k_)) (by repeat (first | (with_reducible first | exact HK.out | apply Kept.alloc | apply Kept.drewN | apply Kept.drew) | exact HK.out)) hb); have n2_ := mkA (zbS (by repeat (first | (with_reducible first | exact HB.out | apply lA | apply lN | apply lD) | exact HB.out)) hb); have n3_ := mkA (hbox); have n4_ := mkA ((by rw [hg]; exact (by first | exact HK.out.1 | exact (show Kept w _ (fun k_ => P0_ k_) from by repeat (first | (with_reducible first | exact HK.out | apply Kept.alloc | apply Kept.drewN | apply Kept.drew) | exact HK.out)).1) : w.heap.size ≤ gb189)); have n5_ := mkA ((by rw [hg]; exact (below_size (by repeat (first | (with_reducible first | exact HB.out | apply lA | apply lN | apply lD) | exact HB.out))) : w0.heap.size ≤ gb189)); clear HO0; clear HK; clear HB; have HO0 := n0_; have HK := n1_; have HB := n2_; have BK189 := n3_; have GW189 := n4_; have GE189 := n5_; clear n0_ n1_ n2_ n3_ n4_ n5_; clear hb hbox hg) | ((with_reducible refine gate_callee (f := 104) rfl ?_); refine goesL_ (some 12) rfl rfl Try.func104 (by kernel_rfl) rfl #[.string a1] rfl (by (try simp only [List.map_toArray, List.map_cons, List.map_nil]); first | done | rfl | (simp only [List.length_drop, List.length_take]; rfl)) ?_; (with_reducible refine (weighlockref01_Untext.calls k a1 t190 t191 t192 _ A3.out).mono ?_); rintro e w187 ⟨rfl, hb⟩; refine ⟨_, rfl, ?_⟩; have n0_ := mkA (zrB (by (with_reducible repeat (first | apply zrA | apply zrN | apply zrD)); exact HO0.out) hb); have n1_ := mkA (bB (g := gb189) (o := .cells #[.slice none 0 0, .bool false] 95 (0, 0)) (by (with_reducible repeat first | apply bN | apply bD | apply bA); exact BK189.out) hb); have n2_ := mkA (Kept.below (S := (fun k_ => P0_ k_)) (by repeat (first | (with_reducible first | exact HK.out | apply Kept.alloc | apply Kept.drewN | apply Kept.drew | refine Kept.setCell ?_ (.inr GW189.out) _) | exact HK.out)) hb); have n3_ := mkA (zbS (by repeat (first | (with_reducible first | exact HB.out | apply lA | apply lN | apply lD | refine lS ?_ GE189.out) | exact HB.out)) hb); clear HO0; clear BK189; clear HK; clear HB; have HO0 := n0_; have BK189 := n1_; have HK := n2_; have HB := n3_; clear n0_ n1_ n2_ n3_; (try clear hb); (try clear hb2); (try clear hk); (try clear hi)) | ((with_reducible refine gate_dst (N := 5) rfl ?_); (try (refine gate_guard (by rfl) ?_; dsimp only)); refine box_event ?hg (N := 5) ?hd (cs := #[.string (⟨#[]⟩ : ByteArray), .int .i64 0, .int .i64 0]) (t := 173) ?hr ?_; (case hd => rfl); (case hg => rfl); (case hr => first | (go_simp; done) | (go_simp; rfl)); intro gb193 hg w188 hbox hb; have n0_ := mkA (zrB (by (with_reducible repeat (first | apply zrA | apply zrN | apply zrD)); exact HO0.out) hb); have n1_ := mkA (bB (g := gb189) (o := .cells #[.slice none 0 0, .bool false] 95 (0, 0)) (by (with_reducible repeat first | apply bN | apply bD | apply bA); exact BK189.out) hb); have n2_ := mkA (Kept.below (S := (fun k_ => P0_ k_)) (by repeat (first | (with_reducible first | exact HK.out | apply Kept.alloc | apply Kept.drewN | apply Kept.drew | refine Kept.setCell ?_ (.inr GW189.out) _) | exact HK.out)) hb); have n3_ := mkA (zbS (by repeat (first | (with_reducible first | exact HB.out | apply lA | apply lN | apply lD | refine lS ?_ GE189.out) | exact HB.out)) hb); have n4_ := mkA (hbox); have n5_ := mkA ((by rw [hg]; exact (by first | exact HK.out.1 | exact (show Kept w _ (fun k_ => P0_ k_) from by repeat (first | (with_reducible first | exact HK.out | apply Kept.alloc | apply Kept.drewN | apply Kept.drew | refine Kept.setCell ?_ (.inr GW189.out) _) | exact HK.out)).1) : w.heap.size ≤ gb193)); have n6_ := mkA ((by rw [hg]; exact (below_size (by repeat (first | (with_reducible first | exact HB.out | apply lA | apply lN | apply lD | refine lS ?_ GE189.out) | exact HB.out))) : w0.heap.size ≤ gb193)); have n7_ := mkA ((by rw [hg]; exact Nat.ne_of_lt (blk_lt (g := gb189) (o := .cells #[.slice none 0 0, .bool false] 95 (0, 0)) (by (with_reducible repeat first | apply bN | apply bD | apply bA); exact BK189.out)) : gb189 ≠ gb193)); have n8_ := mkA ((by rw [hg]; exact Nat.ne_of_gt (blk_lt (g := gb189) (o := .cells #[.slice none 0 0, .bool false] 95 (0, 0)) (by (with_reducible repeat first | apply bN | apply bD | apply bA); exact BK189.out)) : gb193 ≠ gb189)); clear HO0; clear BK189; clear HK; clear HB; have HO0 := n0_; have BK189 := n1_; have HK := n2_; have HB := n3_; have BK193 := n4_; have GW193 := n5_; have GE193 := n6_; have NB189_193 := n7_; have NB193_189 := n8_; clear n0_ n1_ n2_ n3_ n4_ n5_ n6_ n7_ n8_; clear hb hbox hg; have hnb189 := NB193_189.out; have hnc189 := NB189_193.out; have hcz190_0 : w188.cell? ⟨gb193, 0, none⟩ = some (.string (⟨#[]⟩ : ByteArray)) := (bC BK193.out 0).trans rfl; have hcz190_1 : w188.cell? ⟨gb193, 1, none⟩ = some (.int .i64 0) := (bC BK193.out 1).trans rfl; have hcz190_2 : w188.cell? ⟨gb193, 2, none⟩ = some (.int .i64 0) := (bC BK193.out 2).trans rfl; have hfz190_0 := bF BK193.out 0; have hfz190_1 := bF BK193.out 1; have hfz190_2 := bF BK193.out 2; obtain ⟨Ao191, co191, eo191⟩ := Kd.R_slice HO0.out; subst eo191; have hcz192_0 : w188.cell? ⟨gb189, 0, none⟩ = some (.slice none 0 0) := (bC BK189.out 0).trans rfl; have hcz192_1 : w188.cell? ⟨gb189, 1, none⟩ = some (.bool false) := (bC BK189.out 1).trans rfl; have hfz192_0 := bF BK189.out 0; have hfz192_1 := bF BK189.out 1))
  refine bodyPost_ret (results_cell_row rfl _ _ gb189 95 #[.slice Ao191 l0.length co191, .bool false] (0, 0) _ rfl (by (with_reducible repeat first | apply bN | apply bD | apply bA); refine bP (cs := #[.slice Ao191 l0.length co191, .bool false]) ?_ 1 _ rfl; (with_reducible repeat first | apply bN | apply bD | apply bA); refine bP (cs := #[.slice none 0 0, .bool false]) ?_ 0 _ rfl; (with_reducible repeat first | apply bN | apply bD | apply bA); refine bR ?_ NB189_193.out _; (with_reducible repeat first | apply bN | apply bD | apply bA); refine bR ?_ NB189_193.out _; (with_reducible repeat first | apply bN | apply bD | apply bA); refine bR ?_ NB189_193.out _; (with_reducible repeat first | apply bN | apply bD | apply bA); exact BK189.out) Try.underlying95 rfl (by kernel_rfl)) rfl ?_
  exact ⟨_, by first | rfl | (simp [errW_none, errW_some] <;> rfl) | (simp [*, errW_none, errW_some] <;> rfl), by (with_reducible repeat (first | apply zrA | apply zrN | apply zrD)); exact zrM (zrF (p := ⟨gb189, 1, none⟩) (zrF (p := ⟨gb189, 0, none⟩) (zrF (p := ⟨gb193, 2, none⟩) (zrF (p := ⟨gb193, 1, none⟩) (zrF (p := ⟨gb193, 0, none⟩) (Kd.R_types (Kd.R_types HO0.out BK193.out (by decide)) BK189.out (by decide)) (fun _ hk => hk.1.2) (.string t190)) (fun _ hk => hk.1.2) (.int .i64 t191)) (fun _ hk => hk.1.2) (.int .i64 t192)) (fun _ hk => hk.2) (.slice Ao191 l0.length co191)) (fun _ hk => hk.2) (.bool false)) (fun _ hk => hk.1.1), by repeat (first | (with_reducible first | exact HB.out | apply lA | apply lN | apply lD | refine lS ?_ GE189.out | refine lS ?_ GE193.out) | exact HB.out), by repeat (first | (with_reducible first | exact HK.out | apply Kept.alloc | apply Kept.drewN | apply Kept.drew | refine Kept.setCell ?_ (.inr GW189.out) _ | refine Kept.setCell ?_ (.inr GW193.out) _) | exact HK.out)⟩
end Go.Proofs.Ytohhlkabejangaa.POf
