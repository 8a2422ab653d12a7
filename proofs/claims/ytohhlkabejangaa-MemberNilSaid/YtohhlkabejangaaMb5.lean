import Derived.Test.YtohhlkabejangaaMb4
namespace Go.Proofs.Ytohhlkabejangaa.Mb
set_option linter.unusedVariables false
set_option linter.unusedSimpArgs false
open Go.RowKit Go.Maps Go.Sort Go.Proofs.YtohhlkabejangaaW.PrintWords Go.Proofs.YtohhlkabejangaaW.PrintLast Go.Proofs.YtohhlkabejangaaW.PrintMore Go.Proofs.Ytohhlkabejangaa.PAs Go.Proofs.Ytohhlkabejangaa.As
set_option maxHeartbeats 16000000 in
set_option maxRecDepth 100000 in
theorem nil_begin (x : ByteArray) (slot : Int) (w : World) : Calls Try.prog 87 #[.pointer none, .string x, .int .i64 slot] w fun e w' => e = .returned (.int .i64 7) ∧ Below w.heap.size w w' := by
  go_enter Try.func87, Try.ntmps87
  go_wp2_with fail
  go_ret
  exact ⟨rfl, Below.refl _ _⟩
set_option maxHeartbeats 16000000 in
set_option maxRecDepth 100000 in
theorem nil_join (x : ByteArray) (slot : Int) (w : World) : Calls Try.prog 34 #[.pointer none, .string x, .int .i64 slot] w fun e w' => e = .returned (.tuple #[.int .i64 0, .int .i64 7]) ∧ Below w.heap.size w w' := by
  go_enter Try.func34, Try.ntmps34
  go_wp2_with fail
  refine (nil_begin x slot w).mono ?_
  rintro e w1 ⟨rfl, hb⟩
  have HB := Aside0.mk hb
  clear hb
  go_wp2_with fail
  exact bodyPost_ret (v := .tuple #[.int .i64 0, .int .i64 7]) (by simp [results, Try.results34, go_sem]) rfl ⟨rfl, HB.out⟩
set_option maxHeartbeats 16000000 in
set_option maxRecDepth 100000 in
theorem nil_leave (x : ByteArray) (slot : Int) (w : World) : Calls Try.prog 36 #[.pointer none, .string x, .int .i64 slot] w fun e w' => e = .returned (.int .i64 7) ∧ Below w.heap.size w w' := by
  go_enter Try.func36, Try.ntmps36
  go_wp2_with fail
  refine (nil_begin x slot w).mono ?_
  rintro e w1 ⟨rfl, hb⟩
  have HB := Aside0.mk hb
  clear hb
  go_wp2_with fail
  go_ret
  exact ⟨rfl, HB.out⟩
set_option maxHeartbeats 16000000 in
set_option maxRecDepth 100000 in
theorem nil_beat (x : ByteArray) (gen slot : Int) (w : World) : Calls Try.prog 37 #[.pointer none, .string x, .int .i64 gen, .int .i64 slot] w fun e w' => e = .returned (.int .i64 7) ∧ Below w.heap.size w w' := by
  go_enter Try.func37, Try.ntmps37
  go_wp2_with fail
  refine (nil_begin x slot w).mono ?_
  rintro e w1 ⟨rfl, hb⟩
  have HB := Aside0.mk hb
  clear hb
  go_wp2_with fail
  go_ret
  exact ⟨rfl, HB.out⟩
set_option maxHeartbeats 16000000 in
set_option maxRecDepth 100000 in
theorem nil_sweep (slot : Int) (w : World) : Calls Try.prog 38 #[.pointer none, .int .i64 slot] w fun e w' => e = .returned (.int .i64 0) ∧ Below w.heap.size w w' := by
  have hund : ∀ b, some undef = some (Value.bool b) → False := fun b h => by simp [undef] at h
  go_enter Try.func38, Try.ntmps38
  go_wp2_with fail
  go_ret
  exact ⟨rfl, Below.refl _ _⟩
set_option maxHeartbeats 16000000 in
set_option maxRecDepth 100000 in
theorem nil_members (w : World) : Calls Try.prog 39 #[.pointer none] w fun e w' => e = .returned (.slice none 0 0) ∧ Below w.heap.size w w' := by
  have hund : ∀ b, some undef = some (Value.bool b) → False := fun b h => by simp [undef] at h
  go_enter Try.func39, Try.ntmps39
  go_wp2_with fail
  go_ret
  exact ⟨rfl, Below.refl _ _⟩
set_option maxHeartbeats 16000000 in
set_option maxRecDepth 100000 in
theorem nil_gen (w : World) : Calls Try.prog 40 #[.pointer none] w fun e w' => e = .returned (.int .i64 0) ∧ Below w.heap.size w w' := by
  have hund : ∀ b, some undef = some (Value.bool b) → False := fun b h => by simp [undef] at h
  go_enter Try.func40, Try.ntmps40
  go_wp2_with fail
  go_ret
  exact ⟨rfl, Below.refl _ _⟩
set_option maxHeartbeats 16000000 in
set_option maxRecDepth 100000 in
theorem nil_parts (w : World) : Calls Try.prog 41 #[.pointer none] w fun e w' => e = .returned (.int .i64 0) ∧ Below w.heap.size w w' := by
  have hund : ∀ b, some undef = some (Value.bool b) → False := fun b h => by simp [undef] at h
  go_enter Try.func41, Try.ntmps41
  go_wp2_with fail
  go_ret
  exact ⟨rfl, Below.refl _ _⟩
set_option maxHeartbeats 16000000 in
set_option maxRecDepth 100000 in
theorem nil_has (x : ByteArray) (w : World) : Calls Try.prog 35 #[.pointer none, .string x] w fun e w' => e = .returned (.tuple #[.slice none 0 0, .int .i64 7]) ∧ Below w.heap.size w w' := by
  have hund : ∀ b, some undef = some (Value.bool b) → False := fun b h => by simp [undef] at h
  go_enter Try.func35, Try.ntmps35
  go_wp2_with fail
  exact bodyPost_ret (v := .tuple #[.slice none 0 0, .int .i64 7]) (by simp [results, Try.results35, go_sem]) rfl ⟨rfl, Below.refl _ _⟩
/-! ### out -/
theorem nA : nameB bA = true := by decide
theorem nB' : nameB bB = true := by decide
theorem o1 : joinM ⟨3, 2, 0, 0, []⟩ bA 0 = (⟨3, 2, 1, 0, [⟨bA, 0⟩]⟩, 1, 0) := by
  simp [joinM, begB, nA, okS, jn, sweepM, keepM, isM, setM, putM]
theorem o2 : joinM ⟨3, 2, 1, 0, [⟨bA, 0⟩]⟩ bB 1 = (⟨3, 2, 2, 1, [⟨bA, 0⟩, ⟨bB, 1⟩]⟩, 2, 0) := by
  have h : ¬ ([98] : List UInt8) < [97] := by decide
  simp [joinM, begB, nB', okS, jn, sweepM, keepM, isM, setM, putM, kM, tA, tB, h]
theorem o3 : isM [⟨bA, 0⟩, ⟨bB, 1⟩] bB.toList = true := by simp [isM, kM, tA, tB]
theorem o4 : hasL ⟨3, 2, 2, 1, [⟨bA, 0⟩, ⟨bB, 1⟩]⟩ bB = [2] := by
  have hr : rkL [bA, bB] [98] = 1 := by
    simp only [rkL, List.map_cons, List.map_nil, tB, tA]
    decide
  unfold hasL
  rw [if_pos o3, tB]
  unfold ofL
  show numsG (startG 3 2 (rkL [bA, bB] [98])) (if rkL [bA, bB] [98] < 2 then cntG 3 2 (rkL [bA, bB] [98]) else 0) = _
  rw [hr]
  rfl
theorem o5 : beatM ⟨3, 2, 2, 1, [⟨bA, 0⟩, ⟨bB, 1⟩]⟩ bB 2 3 = (⟨3, 2, 3, 3, [⟨bB, 1⟩]⟩, 35) := by
  simp [beatM, begB, nB', okS, bt, sweepM, keepM, isM, kM, tA, tB]
theorem k0 : okM ⟨3, 2, 0, 0, []⟩ := ⟨by simp, by simp, by simp, by simp, by simp, fun x h => by cases h⟩
theorem k1 : okM ⟨3, 2, 1, 0, [⟨bA, 0⟩]⟩ := by
  have := okM_join k0 List.Pairwise.nil bA 0
  rw [o1] at this
  exact this
theorem r1 : RisM [⟨bA, 0⟩] := List.pairwise_singleton _ _
theorem k2 : okM ⟨3, 2, 2, 1, [⟨bA, 0⟩, ⟨bB, 1⟩]⟩ := by
  have := okM_join k1 r1 bB 1
  rw [o2] at this
  exact this
set_option maxHeartbeats 16000000 in
set_option maxRecDepth 100000 in
theorem out_calls (w : World) : Calls Try.prog 28 #[] w fun e w' => e = .returned (.bool true) ∧ Below w.heap.size w w' := by
  have hund : ∀ b, some undef = some (Value.bool b) → False := fun b h => by simp [undef] at h
  go_enter Try.func28, Try.ntmps28
  go_wp2_with fail
  refine (new_calls 3 2 w (by decide)).mono ?_
  rintro e w1 ⟨a, b, rfl, hT, ha, hbb, hb⟩
  have HA := Aside0.mk ha
  have HBB := Aside0.mk hbb
  have HT := Aside0.mk hT
  have HB := Aside0.mk hb
  clear hT ha hbb hb
  go_wp2_with fail
  refine (join_calls a b ⟨3, 2, 0, 0, []⟩ bA 0 (by decide) w1 HT.out k0 (by decide)).mono ?_
  rw [o1]
  rintro e w2 ⟨rfl, hT, hF⟩
  have n_HT := Aside0.mk (hT)
  have n_HB := Aside0.mk (Far.from HB.out hF HA.out HBB.out)
  clear HT HB hT hF
  have HT := n_HT
  have HB := n_HB
  clear n_HT n_HB
  go_wp2_with fail
  refine (join_calls a b ⟨3, 2, 1, 0, [⟨bA, 0⟩]⟩ bB 1 (by decide) w2 HT.out k1 (by decide)).mono ?_
  rw [o2]
  rintro e w3 ⟨rfl, hT, hF⟩
  have n_HT := Aside0.mk (hT)
  have n_HB := Aside0.mk (Far.from HB.out hF HA.out HBB.out)
  clear HT HB hT hF
  have HT := n_HT
  have HB := n_HB
  clear n_HT n_HB
  go_wp2_with fail
  refine (has_calls a b ⟨3, 2, 2, 1, [⟨bA, 0⟩, ⟨bB, 1⟩]⟩ bB (by decide) w3 HT.out k2).mono ?_
  rw [o4, if_pos (show isM (MG.mk 3 2 2 1 [⟨bA, 0⟩, ⟨bB, 1⟩]).L bB.toList = true from o3)]
  rintro e w4 ⟨v, rfl, hR, hb⟩
  have HBw := Aside0.mk HB.out.size
  have HV := Aside0.mk (show ∀ k, v.ownBlock = some k → w3.heap.size ≤ k from fun k hk => (Kd.R_bound hR).1 k hk |>.2.1)
  have HR4 := Aside0.mk hR
  have HLa := Aside0.mk HT.out.lt
  have HLb := Aside0.mk HT.out.own.lt
  have n_HT := Aside0.mk (HT.out.later hb)
  have n_HB := Aside0.mk (below_step HB.out hb)
  clear HT HB hb hR
  have HT := n_HT
  have HB := n_HB
  clear n_HT n_HB
  go_wp2_with fail
  refine (beat_calls a b ⟨3, 2, 2, 1, [⟨bA, 0⟩, ⟨bB, 1⟩]⟩ bB 2 3 (by decide) w4 HT.out k2 (by decide)).mono ?_
  rw [o5]
  rintro e w5 ⟨rfl, hT, hF⟩
  have n_R := Aside0.mk (Kd.R_mono (Kd.R_step (Kd.R_bound HR4.out) (fun k hk hlt => hF.block k hlt (by have := HLa.out; have := hk.2.1; omega) (by have := HLb.out; have := hk.2.1; omega))) (fun _ _ => trivial) : Kd.R (Kd.int .i64) 3 w5 w3.heap.size (fun _ => True) v [2])
  obtain ⟨A5, c5, rfl, hc5, hC5⟩ := Kd.R_reads n_R.out
  have HC5 := Aside0.mk hC5
  clear hC5 n_R HR4 HV HLa HLb HBw
  have n_HT := Aside0.mk (hT)
  have n_HB := Aside0.mk (Far.from HB.out hF HA.out HBB.out)
  clear HT HB hT hF
  have HT := n_HT
  have HB := n_HB
  clear n_HT n_HB
  go_wp2_with fail
  have hD1 : Kd.C (Kd.int .i64) (w5.alloc (.cells #[.int .i64 2] 3)) (some ⟨w5.heap.size, 0, none⟩) ([2] : List Int).length [2] := C_blk (Value.int .i64) (fun _ => rfl) (blk_new w5 _) (by decide)
  have hb3 : Below w5.heap.size w5 (w5.alloc (.cells #[.int .i64 2] 3)) := below_alloc (Below.refl _ _) _
  refine (ints_calls A5 (some ⟨w5.heap.size, 0, none⟩) c5 1 [2] (by decide) hc5 (by decide) _ (Kd.C_below HC5.out hb3) hD1).mono ?_
  rintro e w6 ⟨rfl, hB⟩
  have hb6 := below_step hb3 hB
  have n_HT := Aside0.mk (HT.out.later hb6)
  have n_HB := Aside0.mk (below_step HB.out hb6)
  clear HT HB hb3 hB hb6 hD1 HC5
  have HT := n_HT
  have HB := n_HB
  clear n_HT n_HB
  go_wp2_with fail
  refine (gen_calls a b _ w6 HT.out).mono ?_
  rintro e w7 ⟨rfl, hb⟩
  have n_HT := Aside0.mk (HT.out.later hb)
  have n_HB := Aside0.mk (below_step HB.out hb)
  clear HT HB hb
  have HT := n_HT
  have HB := n_HB
  clear n_HT n_HB
  go_wp2_with fail
  refine (members_calls a b _ w7 HT.out (by decide)).mono ?_
  rintro e w8 ⟨v8, rfl, hR8, hb⟩
  obtain ⟨A8, c8, rfl, hc8, hC8⟩ := Kd.R_reads hR8
  have HC8 := Aside0.mk (show Kd.C Kd.string w8 A8 [bB].length [bB] from hC8)
  have hc8' : [bB].length ≤ c8 := hc8
  clear hC8 hc8
  have n_HT := Aside0.mk (HT.out.later hb)
  have n_HB := Aside0.mk (below_step HB.out hb)
  clear HT HB hb hR8
  have HT := n_HT
  have HB := n_HB
  clear n_HT n_HB
  go_wp2_with fail
  have hD1 : Kd.C Kd.string (w8.alloc (.cells #[.string ⟨#[98]⟩] 9)) (some ⟨w8.heap.size, 0, none⟩) [bB].length [bB] := C_blk Value.string (fun _ => rfl) (blk_new w8 _) (by decide)
  have hb3 : Below w8.heap.size w8 (w8.alloc (.cells #[.string ⟨#[98]⟩] 9)) := below_alloc (Below.refl _ _) _
  refine (texts_calls A8 (some ⟨w8.heap.size, 0, none⟩) c8 1 [bB] (by decide) hc8' (by decide) _ (Kd.C_below HC8.out hb3) hD1).mono ?_
  rintro e w9 ⟨rfl, hB⟩
  have hb6 := below_step hb3 hB
  have n_HT := Aside0.mk (HT.out.later hb6)
  have n_HB := Aside0.mk (below_step HB.out hb6)
  clear HT HB hb3 hB hb6 hD1 HC8 hc8'
  have HT := n_HT
  have HB := n_HB
  clear n_HT n_HB
  go_wp2_with fail
  refine (parts_calls' a b _ w9 HT.out).mono ?_
  rintro e w10 ⟨rfl, hb⟩
  have n_HB := Aside0.mk (below_step HB.out hb)
  clear HB hb
  have HB := n_HB
  clear n_HB
  go_wp2_with fail
  go_ret
  exact ⟨rfl, HB.out⟩
end Go.Proofs.Ytohhlkabejangaa.Mb
