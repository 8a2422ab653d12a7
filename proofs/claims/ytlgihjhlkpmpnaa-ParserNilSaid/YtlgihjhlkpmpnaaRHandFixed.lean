import Derived.Test.YtlgihjhlkpmpnaaRHandChain
namespace Go.Proofs.Ytlgihjhlkpmpnaa.Hand
set_option linter.unusedVariables false
open Go.RowKit Go.Proofs.YtlgihjhlkpmpnaaW.PrintWords Go.Proofs.YtlgihjhlkpmpnaaW.PrintLast Go.Proofs.YtlgihjhlkpmpnaaW.PrintMore

/-- a number as n bytes, the great ones first -/
def fixedL (n : Nat) (v : Int) (i : Nat) : List Int := (List.range i).map fun j => v / 256 ^ (n - 1 - j) % 256
def fitsB (v n : Int) : Bool := decide (1 ≤ n ∧ n ≤ 8 ∧ v < 256 ^ n.toNat)
def nums_Fixed.f (a0 a1 : Int) : Option (ByteArray × Int) := if (0 ≤ a0 ∧ a0 < u64top) ∧ (-9223372036854775808 ≤ a1 ∧ a1 ≤ 9223372036854775807) then (if fitsB a0 a1 = true then some (strOfNums (fixedL a1.toNat a0 a1.toNat), 0) else some (⟨#[]⟩, 1)) else none
theorem fixedL_length (n : Nat) (v : Int) (i : Nat) : (fixedL n v i).length = i := by simp [fixedL]
theorem fixedL_snoc (n : Nat) (v : Int) (i : Nat) : fixedL n v (i + 1) = fixedL n v i ++ [v / 256 ^ (n - 1 - i) % 256] := by simp [fixedL, List.range_succ]
theorem pow8 (n : Nat) : (2 : Int) ^ (8 * n) = 256 ^ n := by rw [Int.pow_mul]; rfl
theorem padF_eq (n : Nat) (v : Int) (i : Nat) (hi : i < 8) : (padV (fixedL n v i) 8).setIfInBounds i (.int .u8 (v / 2 ^ (8 * (n - 1 - i)) % 256)) = padV (fixedL n v (i + 1)) 8 := by
  rw [fixedL_snoc, ← padV_set _ 8 _ (by rw [fixedL_length]; exact hi), fixedL_length, pow8]
set_option maxHeartbeats 4000000 in
set_option maxRecDepth 100000 in
theorem fixed_good (n : Nat) (v : Int) (w : World) (h0 : 0 ≤ v) (h1 : 1 ≤ n) (h2 : n ≤ 8) (hz : Aside0 (n < 8 → (v / 2 ^ (8 * n) != 0) = false)) :
    Calls Try.prog 57 #[.int .u64 v, .int .i64 n] w fun e w' => e = .returned (.tuple #[.string (strOfNums (fixedL n v n)), .int .i64 0]) ∧ Below w.heap.size w w' := by
  have hal : Try.prog.arrayLen 151 = 8 := by kernel_rfl
  have hsl := fun W : World => run_sliceAt_array_h (P := Try.prog) W 151 ⟨w.heap.size, 0, none⟩ (by kernel_rfl) .i64 (n : Int) (by omega) (by rw [hal]; omega)
  clear hal
  by_cases h8 : n < 8
  case pos =>
    have hB := hz.out h8
    go_enter Try.func57, Try.ntmps57
    go_wp2
    go_loopw [26] (fun i wr => ∃ (j : Nat), i = .int .i64 j ∧ j ≤ n ∧ Aside0 (wr.heap[w.heap.size]? = some (.cells (padV (fixedL n v j) 8) 151 (0, 0))) ∧ Aside0 (Below w.heap.size w wr)) (fun i _ => 8 - (intOf i).toNat)
    case atStart => exact ⟨0, rfl, by omega, ⟨heap_alloc_new w _⟩, ⟨(Below.refl _ _).alloc (Nat.le_refl _) _⟩⟩
    case round =>
      obtain ⟨j, rfl, hj, HH, HB⟩ := hrel
      by_cases hlt : j < n
      · have hc : wr.cell? ⟨w.heap.size, j, none⟩ = some (.int .u8 0) := (blk_cell HH.out _).trans (by have := padV_at (fixedL n v j) 8 (by rw [fixedL_length]; omega); rwa [fixedL_length] at this)
        have hfz : wr.frozen? ⟨w.heap.size, j, none⟩ = false := blk_frozen HH.out _
        go_wp2
        refine ⟨⟨j + 1, rfl, by omega, ⟨?_⟩, ⟨HB.out.setCell (by simp) _⟩⟩, by simp [intOf]; omega⟩
        rw [← padF_eq n v j (by omega)]; exact blk_set HH.out _ _
      · obtain rfl : j = n := by omega
        have hcv := run_convert_bytes_arg (P := Try.prog) wr 114 5 Try.underlying114 Try.underlying5 w.heap.size 0 j 8 (fixedL j v j) (fixedL_length _ _ _) (by
          intro i hi
          rw [Nat.zero_add]
          exact (blk_cell HH.out i).trans (padV_get _ _ i (by rw [fixedL_length]; exact hi))) 9 Try.underlying9
        go_wp2
        go_ret2
        exact ⟨rfl, HB.out⟩
  case neg =>
    go_enter Try.func57, Try.ntmps57
    go_wp2
    go_loopw [26] (fun i wr => ∃ (j : Nat), i = .int .i64 j ∧ j ≤ n ∧ Aside0 (wr.heap[w.heap.size]? = some (.cells (padV (fixedL n v j) 8) 151 (0, 0))) ∧ Aside0 (Below w.heap.size w wr)) (fun i _ => 8 - (intOf i).toNat)
    case atStart => exact ⟨0, rfl, by omega, ⟨heap_alloc_new w _⟩, ⟨(Below.refl _ _).alloc (Nat.le_refl _) _⟩⟩
    case round =>
      obtain ⟨j, rfl, hj, HH, HB⟩ := hrel
      by_cases hlt : j < n
      · have hc : wr.cell? ⟨w.heap.size, j, none⟩ = some (.int .u8 0) := (blk_cell HH.out _).trans (by have := padV_at (fixedL n v j) 8 (by rw [fixedL_length]; omega); rwa [fixedL_length] at this)
        have hfz : wr.frozen? ⟨w.heap.size, j, none⟩ = false := blk_frozen HH.out _
        go_wp2
        refine ⟨⟨j + 1, rfl, by omega, ⟨?_⟩, ⟨HB.out.setCell (by simp) _⟩⟩, by simp [intOf]; omega⟩
        rw [← padF_eq n v j (by omega)]; exact blk_set HH.out _ _
      · obtain rfl : j = n := by omega
        have hcv := run_convert_bytes_arg (P := Try.prog) wr 114 5 Try.underlying114 Try.underlying5 w.heap.size 0 j 8 (fixedL j v j) (fixedL_length _ _ _) (by
          intro i hi
          rw [Nat.zero_add]
          exact (blk_cell HH.out i).trans (padV_get _ _ i (by rw [fixedL_length]; exact hi))) 9 Try.underlying9
        go_wp2
        go_ret2
        exact ⟨rfl, HB.out⟩
set_option maxHeartbeats 4000000 in
set_option maxRecDepth 100000 in
theorem fixed_bad (n v : Int) (w : World) (h0 : 0 ≤ v) (hn0 : -9223372036854775808 ≤ n) (hn1 : n ≤ 9223372036854775807) (hz : n < 1 ∨ 8 < n ∨ (1 ≤ n ∧ n < 8 ∧ (v / 2 ^ (8 * n.toNat) != 0) = true)) :
    Calls Try.prog 57 #[.int .u64 v, .int .i64 n] w fun e w' => e = .returned (.tuple #[.string ⟨#[]⟩, .int .i64 1]) ∧ Below w.heap.size w w' := by
  rcases hz with h | h | ⟨h1, h2, h3⟩
  · go_enter Try.func57, Try.ntmps57
    go_wp2
    go_ret2
    exact ⟨rfl, Below.refl _ _⟩
  · go_enter Try.func57, Try.ntmps57
    go_wp2
    go_ret2
    exact ⟨rfl, Below.refl _ _⟩
  · obtain ⟨m, rfl⟩ := Int.eq_ofNat_of_zero_le (show 0 ≤ n by omega)
    rw [Int.toNat_natCast] at h3
    go_enter Try.func57, Try.ntmps57
    go_wp2
    go_ret2
    exact ⟨rfl, Below.refl _ _⟩
theorem nums_Fixed.calls (a0 a1 : Int) (r1 : ByteArray) (r2 : Int) (w : World) (h : nums_Fixed.f a0 a1 = some (r1, r2)) :
    Calls Try.prog 57 #[.int .u64 a0, .int .i64 a1] w fun e w' => e = .returned (.tuple #[.string r1, .int .i64 r2]) ∧ Below w.heap.size w w' := by
  unfold nums_Fixed.f at h
  by_cases hb : (0 ≤ a0 ∧ a0 < u64top) ∧ (-9223372036854775808 ≤ a1 ∧ a1 ≤ 9223372036854775807)
  case neg => rw [if_neg hb] at h; exact absurd h (by simp)
  rw [if_pos hb] at h
  obtain ⟨⟨h0, h1⟩, h2, h3⟩ := hb
  by_cases hf : fitsB a0 a1 = true
  · rw [if_pos hf] at h
    obtain ⟨rfl, rfl⟩ := Prod.mk.inj (Option.some.inj h)
    obtain ⟨q1, q2, q3⟩ := of_decide_eq_true hf
    obtain ⟨n, rfl⟩ := Int.eq_ofNat_of_zero_le (show 0 ≤ a1 by omega)
    rw [Int.toNat_natCast] at q3 ⊢
    refine fixed_good n a0 w h0 (by omega) (by omega) ⟨fun _ => ?_⟩
    rw [pow8, Int.ediv_eq_zero_of_lt h0 q3]
    rfl
  · rw [if_neg hf] at h
    obtain ⟨rfl, rfl⟩ := Prod.mk.inj (Option.some.inj h)
    refine fixed_bad a1 a0 w h0 h2 h3 ?_
    by_cases q1 : a1 < 1
    · exact .inl q1
    by_cases q2 : 8 < a1
    · exact .inr (.inl q2)
    obtain ⟨n, rfl⟩ := Int.eq_ofNat_of_zero_le (show 0 ≤ a1 by omega)
    have q3 : ¬ a0 < 256 ^ n := fun e => hf (decide_eq_true ⟨by omega, by omega, by rw [Int.toNat_natCast]; exact e⟩)
    have q4 : n ≠ 8 := fun e => by subst e; exact q3 (by unfold u64top at h1; omega)
    refine .inr (.inr ⟨by omega, by omega, ?_⟩)
    rw [Int.toNat_natCast, pow8, bne_iff_ne]
    have hp : (0 : Int) < 256 ^ n := Int.pow_pos (by decide)
    intro e
    have := Int.lt_ediv_add_one_mul_self a0 hp
    rw [e] at this
    omega
end Go.Proofs.Ytlgihjhlkpmpnaa.Hand
