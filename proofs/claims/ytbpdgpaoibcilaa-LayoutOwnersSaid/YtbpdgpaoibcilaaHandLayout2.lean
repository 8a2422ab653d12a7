import Derived.Test.YtbpdgpaoibcilaaHandLayout
namespace Go.Proofs.Ytbpdgpaoibcilaa.HandLayout
open Go.RowKit Go.Proofs.YtbpdgpaoibcilaaW.PrintWords Go.Proofs.YtbpdgpaoibcilaaW.PrintLast Go.Proofs.YtbpdgpaoibcilaaW.PrintMore
set_option linter.unusedVariables false

theorem int_block {k : IntKind} {W : World} {b t : Nat} {xs : List Int} {fr : Nat × Nat} (h : W.heap[b]? = some (.cells (xs.map (Value.int k)).toArray t fr)) (hm : xs.length ≤ 9223372036854775807) : Kd.C (Kd.int k) W (some ⟨b, 0, none⟩) xs.length xs := by
  refine Kd.C_of_reads (enc := Value.int k) (d := (0 : Int)) (h1 := fun _ => rfl) ⟨rfl, hm, fun _ => ⟨_, rfl, fun j hj => ?_⟩⟩
  rw [add_plain]
  refine (cell_of_row W b j _ t fr h).trans ?_
  rw [List.getElem?_toArray, List.getElem?_map, List.getElem?_eq_getElem hj, List.getD_eq_getElem?_getD, List.getElem?_eq_getElem hj]
  rfl
theorem good68 : Good [6, 8] := by
  refine ⟨by decide, by decide, fun i hi => ?_⟩
  match i, hi with
  | 0, _ => exact ⟨by decide, by decide⟩
  | 1, _ => exact ⟨by decide, by decide⟩
theorem IsLay.below {w w1 : World} {g : Nat} {segs : List Int} (h : IsLay w g segs) (hb : Below w.heap.size w w1) : IsLay w1 g segs := (hb.block g (blk_lt h)).trans h
theorem IsLay.drawN {w : World} {g : Nat} {segs : List Int} (h : IsLay w g segs) (n : Nat) : IsLay (w.drewN n) g segs := h
theorem ext_int (g : Nat) (segs : List Int) (l : Int) (w : World) (h : IsLay w g segs) (hg : Good segs) (h0 : 0 ≤ l) (hl : l < segs.length) : Calls Try.prog 25 #[.pointer (some ⟨g, 0, none⟩), .int .i64 l] w fun e w' => e = .returned (.tuple #[.agg #[.int .i64 (bg segs l.toNat), .int .i64 (2 + 16 * rd segs l)], .int .i64 0]) ∧ Below w.heap.size w w' := by
  obtain ⟨n, rfl⟩ := Int.eq_ofNat_of_zero_le h0
  rw [Int.toNat_natCast]
  exact ext_good g segs n w h hg (by omega)
theorem lab' (g : Nat) (segs : List Int) (n : Int) (w : World) (h : IsLay w g segs) (hn : (segs.length : Int) = n) : Calls Try.prog 16 #[.pointer (some ⟨g, 0, none⟩)] w fun e w' => e = .returned (.int .i64 n) ∧ Drawn0 w w' := by subst hn; exact lab g segs w h
theorem sec' (g : Nat) (segs : List Int) (n : Int) (w : World) (h : IsLay w g segs) (h6 : segs.length ≤ 6) (hn : bg segs segs.length = n) : Calls Try.prog 17 #[.pointer (some ⟨g, 0, none⟩)] w fun e w' => e = .returned (.int .i64 n) ∧ Drawn0 w w' := by subst hn; exact sec g segs w h h6
theorem ext' (g : Nat) (segs : List Int) (l a b : Int) (w : World) (h : IsLay w g segs) (hg : Good segs) (h0 : 0 ≤ l) (hl : l < segs.length) (ha : bg segs l.toNat = a) (hb : 2 + 16 * rd segs l = b) : Calls Try.prog 25 #[.pointer (some ⟨g, 0, none⟩), .int .i64 l] w fun e w' => e = .returned (.tuple #[.agg #[.int .i64 a, .int .i64 b], .int .i64 0]) ∧ Below w.heap.size w w' := by subst ha; subst hb; exact ext_int g segs l w h hg h0 hl
set_option maxHeartbeats 2000000 in
theorem pair_true (w : World) : Calls Try.prog 13 #[] w fun e w' => e = .returned (.bool true) ∧ Below w.heap.size w w' := by
  have G := Aside0.mk good68
  go_enter Try.func13, Try.ntmps13
  go_wp2_with fail
  refine (new_good _ _ [6, 8] _ (int_block (k := .i64) (t := 3) (fr := (0, 0)) (heap_alloc_new w _) (by decide)) (Nat.le_refl _) G.out).mono ?_
  rintro e w1 ⟨rfl, hL, hb⟩
  have HB := Aside0.mk (below_step ((Below.refl w.heap.size w).alloc (Nat.le_refl _) _) hb)
  simp only [World.size_alloc] at hL
  have HL := Aside0.mk hL
  clear hL hb
  go_wp2_with fail
  refine (ext' _ [6, 8] 0 0 98 _ HL.out G.out (by decide) (by decide) (by decide) (by decide)).mono ?_
  rintro e w2 ⟨rfl, hb⟩
  have HL2 := Aside0.mk (HL.out.below hb)
  have HB2 := Aside0.mk (below_alloc (below_step HB.out hb) (.cells #[.int .i64 0, .int .i64 98] 43))
  clear hb
  go_wp2_with fail
  refine (ext' _ [6, 8] 1 98 130 _ (HL2.out.below (below_alloc (Below.refl _ _) _)) G.out (by decide) (by decide) (by decide) (by decide)).mono ?_
  rintro e w3 ⟨rfl, hb⟩
  have HB3 := Aside0.mk (below_step HB2.out hb)
  simp only [World.size_alloc] at hb
  have hl2 : w.heap.size + 1 < w2.heap.size := blk_lt HL2.out
  have hc0 : w3.cell? ⟨w2.heap.size, 0, none⟩ = some (.int .i64 0) := (hb.cell (p := ⟨w2.heap.size, 0, none⟩) (by simp)).trans (by simp)
  have hc1 : w3.cell? ⟨w2.heap.size, 1, none⟩ = some (.int .i64 98) := (hb.cell (p := ⟨w2.heap.size, 1, none⟩) (by simp)).trans (by simp)
  have hz : w2.heap.size < w3.heap.size := by have := hb.size; simp at this; omega
  have HL3 := Aside0.mk ((HL2.out.below (below_alloc (Below.refl _ _) (.cells #[.int .i64 0, .int .i64 98] 43))).below (by simpa using hb))
  clear hb hl2
  go_wp2_with (first | (go_at_call 17; refine (sec' _ [6, 8] 228 _ (HL3.out.below (below_alloc (Below.refl _ _) _)) (by decide) (by decide)).mono ?_; rintro e w' ⟨rfl, ⟨⟨nq, rfl⟩⟩⟩) | (go_at_call 16; refine (lab' _ [6, 8] 2 _ ((HL3.out.below (below_alloc (Below.refl _ _) _)).drawN _) (by decide)).mono ?_; rintro e w' ⟨rfl, ⟨⟨nq2, rfl⟩⟩⟩))
  go_ret
  exact ⟨rfl, by repeat (first | exact HB3.out | apply below_alloc | apply pw_below_drewN | apply below_drew)⟩
end Go.Proofs.Ytbpdgpaoibcilaa.HandLayout
