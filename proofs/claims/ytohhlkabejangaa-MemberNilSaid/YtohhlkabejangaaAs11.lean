import Derived.Test.YtohhlkabejangaaAs10
namespace Go.Proofs.Ytohhlkabejangaa.As
open Go.RowKit Go.Maps Go.Sort Go.ChangeShapes Go.Proofs.YtohhlkabejangaaW.PrintWords Go.Proofs.YtohhlkabejangaaW.PrintLast Go.Proofs.YtohhlkabejangaaW.PrintMore Go.Proofs.Ytohhlkabejangaa.PAs
set_option linter.unusedVariables false
set_option linter.unusedSimpArgs false
/-- the map of members and their partitions -/
def Grp (w : World) (b q : Nat) (l : List ByteArray) (n : Nat) : Prop := w.ownsGroups Try.prog 9 (b + 1) 3 .i64 b q (datG (rowsG n (srt l) l.length))
theorem Grp.later {w w' : World} {b q : Nat} {l : List ByteArray} {n : Nat} (h : Grp w b q l n) (hb : Below w.heap.size w w') : Grp w' b q l n :=
  World.ownsGroups.kept (row := none) (show w.ownsGroups _ _ _ _ _ _ _ _ from h) ⟨hb.os, hb.tape, hb.output, hb.size, fun i hi _ => hb.block i hi⟩ (by simp) (fun es clock _ x _ => by
    cases x.val.ownBlock with
    | none => exact .inl rfl
    | some k => exact .inr (by simp))
theorem key_B (x : ByteArray) (h : x.size ≤ 1000) : keyOf Try.prog 9 (.string x) = some (.string x.toList) := by
  have := key_str x.toList (by rw [str_toList, data_length]; exact h)
  rwa [enc_str] at this
theorem Grp.at' {w : World} {b q : Nat} {l : List ByteArray} {n : Nat} (h : Grp w b q l n) (hq : q ≤ 6000) (hw : wrongL l = 0) (x : ByteArray) (hx : x.size ≤ 1000) (hin : isIn l x.toList = true) :
    ∃ A c, (Instr.lookup 25 (.map (some b)) (.string x) false).run Try.prog w = .ok (.slice A (ofL l n x.toList).length c) w ∧ (ofL l n x.toList).length ≤ c ∧ Kd.C (Kd.int .i64) w A (ofL l n x.toList).length (ofL l n x.toList) := by
  obtain ⟨v, zs, hrun, hat, hoi, _, _⟩ := World.ownsGroups.at (show w.ownsGroups _ _ _ _ _ _ _ _ from h) str_law Try.underlying25 (zeroIS w) (by unfold maxLen; omega) (key_B x hx)
  rw [datG_at l hw n x.toList hin] at hat
  have hzs := dz_row hoi hat
  subst hzs
  obtain ⟨A, c, rfl, hc, hC⟩ := ints_C0 hoi
  exact ⟨A, c, hrun, hc, hC⟩
theorem Grp.len {w : World} {b q : Nat} {l : List ByteArray} {n : Nat} (h : Grp w b q l n) (ty : TypeId) : (Builtin.len_ #[25] ty #[.map (some b)]).run Try.prog w = .ok (.int .i64 (l.length : Int)) w := by
  have h9 := (groups_map (show w.ownsGroups _ _ _ _ _ _ _ _ from h)).len Try.underlying25 ty
  rw [h9, sizeG, rowsG_length]
theorem C_blk {α : Type} (enc : α → Value) (h1 : ∀ x, (enc x).oneCell' = true) {W : World} {g e : Nat} {xs : List α} (h : W.heap[g]? = some (.cells (xs.map enc).toArray e (0, 0))) (hl : xs.length ≤ 1000) : (Kd.scalar enc h1).C W (some ⟨g, 0, none⟩) xs.length xs :=
  (Kd.R_reads' (Kd.R_of_own (enc := enc) (h1 := h1) (e := e) (base := 0) (ok := fun _ => True) (v := .slice (some ⟨g, 0, none⟩) xs.length xs.length)
    ⟨by simp [encs], .inr ⟨g, xs.length, _, rfl, Nat.zero_le _, h, Nat.le_refl _, by unfold maxLen; omega, by simp, by rw [List.take_of_length_le (by simp)]; rfl⟩⟩ (fun _ _ => trivial))).2.2
/-! three -/
def bB : ByteArray := ⟨#[98]⟩
def bA : ByteArray := ⟨#[97]⟩
def l3 : List ByteArray := [bB, bA]
theorem tB : bB.toList = [98] := by rw [str_toList]; rfl
theorem tA : bA.toList = [97] := by rw [str_toList]; rfl
theorem l3_z : ∀ s ∈ l3, s.size ≤ 1000 := by
  intro s h
  simp only [l3, List.mem_cons, List.not_mem_nil, or_false] at h
  rcases h with rfl | rfl <;> decide
theorem l3_w : wrongL l3 = 0 := by
  unfold wrongL
  rw [if_pos (by decide), if_pos (by simp [l3, tB, tA])]
theorem l3_inA : isIn l3 [97] = true := by simp [isIn, l3, tB, tA]
theorem l3_inB : isIn l3 [98] = true := by simp [isIn, l3, tB, tA]
theorem l3_ofA : ofL l3 3 [97] = [0, 1] := by
  have : rkL l3 [97] = 0 := by
    simp only [rkL, l3, List.map_cons, List.map_nil, tB, tA]
    decide
  unfold ofL
  rw [this]
  rfl
theorem l3_ofB : ofL l3 3 [98] = [2] := by
  have : rkL l3 [98] = 1 := by
    simp only [rkL, l3, List.map_cons, List.map_nil, tB, tA]
    decide
  unfold ofL
  rw [this]
  rfl
theorem l3_errB : errOf l3 3 [98] = 0 := by
  unfold errOf
  rw [errA_of l3_w (by decide) (by decide), if_pos rfl, if_pos l3_inB]
theorem l3_own {s : ByteArray} {z : Int} (h : OwnP l3 3 1 s z) : s = bA ∧ z = 0 := by
  rcases h with ⟨rfl, h1, h2⟩ | ⟨_, _, h1⟩
  · have h3 : s.toList = [98] ∨ s.toList = [97] := by simpa [isIn, l3, tB, tA] using h1
    rcases h3 with h3 | h3
    · rw [h3, l3_ofB] at h2
      simp at h2
    · exact ⟨toList_inj (h3.trans tA.symm), rfl⟩
  · exact (h1 [97] l3_inA (by rw [l3_ofA]; decide)).elim
set_option maxHeartbeats 16000000 in
set_option maxRecDepth 100000 in
theorem three_calls (w : World) : Calls Try.prog 17 #[] w fun e w' => e = .returned (.bool true) ∧ Below w.heap.size w w' := by
  have hund : ∀ b, some undef = some (Value.bool b) → False := fun b h => by simp [undef] at h
  go_enter Try.func17, Try.ntmps17
  go_wp2_with fail
  have hC1 : Kd.C Kd.string (w.alloc (.cells #[.string ⟨#[98]⟩, .string ⟨#[97]⟩] 9)) (some ⟨w.heap.size, 0, none⟩) l3.length l3 := C_blk Value.string (fun _ => rfl) (blk_new w _) (by decide)
  refine (range_calls (some ⟨w.heap.size, 0, none⟩) 2 l3 3 _ hC1 (by decide) l3_z l3_w (by decide)).mono ?_
  rintro e w1 ⟨b, q, rfl, hb, hq, hG, hB⟩
  have HG := Aside0.mk (show Grp w1 b q l3 3 from hG)
  have HB := Aside0.mk (below_step (below_alloc (Below.refl _ _) _) hB : Below w.heap.size w w1)
  clear hG hB hC1 hb
  go_wp2_with fail
  have hC1 : Kd.C Kd.string (w1.alloc (.cells #[.string ⟨#[98]⟩, .string ⟨#[97]⟩] 9)) (some ⟨w1.heap.size, 0, none⟩) l3.length l3 := C_blk Value.string (fun _ => rfl) (blk_new w1 _) (by decide)
  refine (off_calls (some ⟨w1.heap.size, 0, none⟩) 2 l3 3 bB (by decide) _ hC1 (by decide) l3_z).mono ?_
  rw [tB, l3_errB, if_pos rfl, show (3 : Int).toNat = 3 from rfl, l3_ofB]
  rintro e w2 ⟨v, rfl, hR, hB⟩
  have hb2 : Below w1.heap.size w1 w2 := below_step (below_alloc (Below.refl _ _) _) hB
  obtain ⟨A2, c2, rfl, hc2, hC2⟩ := Kd.R_reads hR
  have n_G := Aside0.mk (HG.out.later hb2)
  have n_B := Aside0.mk (below_step HB.out hb2)
  have HC2 := Aside0.mk hC2
  clear HG HB hC1 hB hb2 hR hC2
  have HG := n_G
  have HB := n_B
  clear n_G n_B
  go_wp2_with fail
  have hC1 : Kd.C Kd.string (w2.alloc (.cells #[.string ⟨#[98]⟩, .string ⟨#[97]⟩] 9)) (some ⟨w2.heap.size, 0, none⟩) l3.length l3 := C_blk Value.string (fun _ => rfl) (blk_new w2 _) (by decide)
  refine (ownerf_calls (some ⟨w2.heap.size, 0, none⟩) 2 l3 3 1 _ hC1 (by decide) l3_z l3_w (by decide)).mono ?_
  rintro e w3 ⟨s, z, rfl, hP, hB⟩
  obtain ⟨rfl, rfl⟩ := l3_own hP
  have hb2 : Below w2.heap.size w2 w3 := below_step (below_alloc (Below.refl _ _) _) hB
  have n_G := Aside0.mk (HG.out.later hb2)
  have n_B := Aside0.mk (below_step HB.out hb2)
  have n_C := Aside0.mk (Kd.C_below HC2.out hb2)
  clear HG HB HC2 hC1 hB hb2 hP
  have HG := n_G
  have HB := n_B
  have HC2 := n_C
  clear n_G n_B n_C
  have hlen := fun ty => HG.out.len ty
  obtain ⟨A4, c4, hat, hc4, hC4⟩ := HG.out.at' hq l3_w bA (by decide) (by rw [tA]; exact l3_inA)
  rw [tA, l3_ofA] at hat hc4 hC4
  have hbA : (bA.toList == ([97] : List UInt8)) = true := by rw [tA]; rfl
  have HC4 := Aside0.mk hC4
  clear hC4
  have hl3 : (l3.length : Int) = 2 := rfl
  rw [hl3] at hlen
  have hat' : (Instr.lookup 25 (.map (some b)) (.string ⟨#[97]⟩) false).run Try.prog w3 = .ok (.slice A4 2 c4) w3 := hat
  clear hat
  go_wp2_with fail
  have hD1 : Kd.C (Kd.int .i64) (w3.alloc (.cells #[.int .i64 0, .int .i64 1] 3)) (some ⟨w3.heap.size, 0, none⟩) ([0, 1] : List Int).length [0, 1] := C_blk (Value.int .i64) (fun _ => rfl) (blk_new w3 _) (by decide)
  have hb3 : Below w3.heap.size w3 (w3.alloc (.cells #[.int .i64 0, .int .i64 1] 3)) := below_alloc (Below.refl _ _) _
  refine (ints_calls A4 (some ⟨w3.heap.size, 0, none⟩) c4 2 [0, 1] (by decide) hc4 (by decide) _ (Kd.C_below HC4.out hb3) hD1).mono ?_
  rintro e w4 ⟨rfl, hB⟩
  have hb4 : Below w3.heap.size w3 w4 := below_step hb3 hB
  have n_B := Aside0.mk (below_step HB.out hb4)
  have n_C := Aside0.mk (Kd.C_below HC2.out hb4)
  clear HB HC2 hD1 hb3 hB hb4 HC4 HG hat' hlen
  have HB := n_B
  have HC2 := n_C
  clear n_B n_C
  go_wp2_with fail
  have hD1 : Kd.C (Kd.int .i64) (w4.alloc (.cells #[.int .i64 2] 3)) (some ⟨w4.heap.size, 0, none⟩) ([2] : List Int).length [2] := C_blk (Value.int .i64) (fun _ => rfl) (blk_new w4 _) (by decide)
  have hb3 : Below w4.heap.size w4 (w4.alloc (.cells #[.int .i64 2] 3)) := below_alloc (Below.refl _ _) _
  refine (ints_calls A2 (some ⟨w4.heap.size, 0, none⟩) c2 1 [2] (by decide) hc2 (by decide) _ (Kd.C_below HC2.out hb3) hD1).mono ?_
  rintro e w5 ⟨rfl, hB⟩
  have HB5 := Aside0.mk (below_step HB.out (below_step hb3 hB))
  clear HB HC2 hD1 hb3 hB
  go_wp2_with fail
  go_ret
  exact ⟨rfl, HB5.out⟩
end Go.Proofs.Ytohhlkabejangaa.As
