import Derived.Test.YtbpdgpaoibcilaaPureNums1
namespace Go.Proofs.Ytbpdgpaoibcilaa.PureNums
open Go.RowKit Go.Proofs.YtbpdgpaoibcilaaW.PrintWords Go.Proofs.YtbpdgpaoibcilaaW.PrintLast Go.Proofs.YtbpdgpaoibcilaaW.PrintMore Go.Proofs.Ytbpdgpaoibcilaa.Hand Go.Proofs.Ytbpdgpaoibcilaa.PNums
set_option linter.unusedVariables false

theorem ofInt64_nat (x : Int) (h0 : 0 ≤ x) (h1 : x < 18446744073709551616) : (BitVec.ofInt 64 x).toNat = x.toNat := by
  obtain ⟨n, rfl⟩ := Int.eq_ofNat_of_zero_le h0
  rw [BitVec.ofInt_natCast, BitVec.toNat_ofNat, Int.toNat_natCast]
  exact Nat.mod_eq_of_lt (by omega)
theorem xor_zero64 (x : Int) (h0 : 0 ≤ x) (h1 : x < 18446744073709551616) : bits .xor .u64 x 0 = x := by
  show IntKind.u64.wrap ((BitVec.ofInt 64 x ^^^ BitVec.ofInt 64 0).toNat : Int) = x
  have e : BitVec.ofInt 64 0 = 0#64 := by decide +kernel
  rw [e, BitVec.xor_zero, ofInt64_nat x h0 h1, wu64 _ (by omega) (by omega)]
  omega
theorem xor_ones64 (x : Int) (h0 : 0 ≤ x) (h1 : x < 18446744073709551616) : bits .xor .u64 x 18446744073709551615 = 18446744073709551615 - x := by
  show IntKind.u64.wrap ((BitVec.ofInt 64 x ^^^ BitVec.ofInt 64 18446744073709551615).toNat : Int) = _
  have e : BitVec.ofInt 64 18446744073709551615 = BitVec.allOnes 64 := by decide +kernel
  have hp : 2 ^ 64 = 18446744073709551616 := by decide +kernel
  rw [e, BitVec.xor_allOnes, BitVec.toNat_not, ofInt64_nat x h0 h1, hp, wu64 _ (by omega) (by omega)]
  omega
theorem wrap_i64_eq (x : Int) : IntKind.i64.wrap x = wrap64 x := by rw [IntKind.wrap_i64]; unfold wrap64; omega
theorem xor_zero_i (x : Int) (h0 : 0 ≤ x) (h1 : x < 9223372036854775808) : bits .xor .i64 x 0 = x := by
  show IntKind.i64.wrap ((BitVec.ofInt 64 x ^^^ BitVec.ofInt 64 0).toNat : Int) = x
  have e : BitVec.ofInt 64 0 = 0#64 := by decide +kernel
  rw [e, BitVec.xor_zero, ofInt64_nat x h0 (by omega), wrap_i64_eq, w64 _ (by omega) (by omega)]
  omega
theorem xor_ones_i (x : Int) (h0 : 0 ≤ x) (h1 : x < 9223372036854775808) : bits .xor .i64 x (-1) = -1 - x := by
  show IntKind.i64.wrap ((BitVec.ofInt 64 x ^^^ BitVec.ofInt 64 (-1)).toNat : Int) = _
  have e : BitVec.ofInt 64 (-1) = BitVec.allOnes 64 := by decide +kernel
  have hp : 2 ^ 64 = 18446744073709551616 := by decide +kernel
  rw [e, BitVec.xor_allOnes, BitVec.toNat_not, ofInt64_nat x h0 (by omega), hp, wrap_i64_eq]
  unfold wrap64
  omega
theorem and_one (x : Int) (h0 : 0 ≤ x) (h1 : x < 18446744073709551616) : bits .and .u64 x 1 = x % 2 := by
  have hp : (2 : Int) ^ 64 = 18446744073709551616 := by decide +kernel
  exact bits_mask .u64 64 (by decide) wraps_u64 1 (by decide) x h0 (by rw [hp]; exact h1)
theorem wu64_neg (x : Int) (h0 : -18446744073709551616 ≤ x) (h1 : x < 0) : IntKind.u64.wrap x = x + 18446744073709551616 := by
  simp [IntKind.wrap, IntKind.bits, IntKind.signed]; omega
theorem wu64_big (x : Int) (h0 : 18446744073709551616 ≤ x) (h1 : x < 36893488147419103232) : IntKind.u64.wrap x = x - 18446744073709551616 := by
  simp [IntKind.wrap, IntKind.bits, IntKind.signed]; omega

/-- a number folded -/
def foldZ (v : Int) : Int := if 0 ≤ v then 2 * v else -2 * v - 1
def unfoldZ (w : Int) : Int := if w % 2 = 0 then w / 2 else -(w / 2) - 1
theorem fold_eq (v : Int) (h0 : -9223372036854775808 ≤ v) (h1 : v ≤ 9223372036854775807) : nums_Fold.f v = some (foldZ v) := by
  unfold nums_Fold.f foldZ
  by_cases h : 0 ≤ v
  · rw [if_pos h, wu64 v h (by omega), wu64 (v * 2) (by omega) (by omega), show v / 9223372036854775808 = 0 by omega, wu64 0 (by omega) (by omega), xor_zero64 _ (by omega) (by omega), Int.mul_comm]
  · rw [if_neg h, wu64_neg v (by omega) (by omega), show v / 9223372036854775808 = -1 by omega, wu64_neg (-1) (by omega) (by omega)]
    have e : IntKind.u64.wrap ((v + 18446744073709551616) * 2) = 2 * v + 18446744073709551616 := by
      rw [wu64_big _ (by omega) (by omega)]; omega
    rw [e, show (-1 : Int) + 18446744073709551616 = 18446744073709551615 by decide, xor_ones64 _ (by omega) (by omega)]
    congr 1; omega
theorem unfold_eq (w : Int) (h0 : 0 ≤ w) (h1 : w < 18446744073709551616) : nums_Unfold.f w = some (unfoldZ w) := by
  unfold nums_Unfold.f unfoldZ
  rw [and_one w h0 h1, w64 (w / 2) (by omega) (by omega), w64 (w % 2) (by omega) (by omega), w64 _ (by omega) (by omega)]
  by_cases h : w % 2 = 0
  · rw [if_pos h, h, show -(0 : Int) = 0 by decide, xor_zero_i _ (by omega) (by omega)]
  · rw [if_neg h, show w % 2 = 1 by omega, xor_ones_i _ (by omega) (by omega)]
    congr 1; omega
theorem ref_fold (v : Int) (h0 : -9223372036854775808 ≤ v) (h1 : v ≤ 9223372036854775807) : weighlockref01_Fold.f v = some (foldZ v) := by
  unfold weighlockref01_Fold.f foldZ
  by_cases h : 0 ≤ v
  · rw [if_pos h, if_pos h, wu64 v h (by omega), wu64 _ (by omega) (by omega)]
  · rw [if_neg h, if_neg h, w64 (v + 1) (by omega) (by omega), w64 _ (by omega) (by omega), wu64 (-(v + 1)) (by omega) (by omega), wu64 (2 * -(v + 1)) (by omega) (by omega), wu64 _ (by omega) (by omega)]
    congr 1; omega
theorem ref_unfold (w : Int) (h0 : 0 ≤ w) (h1 : w < 18446744073709551616) : weighlockref01_Unfold.f w = some (unfoldZ w) := by
  unfold weighlockref01_Unfold.f unfoldZ
  have ht : Int.tmod w 2 = w % 2 := Int.tmod_eq_emod_of_nonneg h0
  have hd : Int.tdiv w 2 = w / 2 := Int.tdiv_eq_ediv_of_nonneg h0
  rw [ht, hd, wu64 (w / 2) (by omega) (by omega), w64 (w / 2) (by omega) (by omega), w64 (-(w / 2)) (by omega) (by omega), w64 (-(w / 2) - 1) (by omega) (by omega)]
  by_cases h : w % 2 = 0
  · rw [if_pos h, if_pos h]
  · rw [if_neg h, if_neg h]
theorem NumsFolds : weighlocklaw01_NumsFolds.Pure := by
  intro v w hv hw
  obtain ⟨a0, a1⟩ := wf_i64 hv
  obtain ⟨b0, b1⟩ := wf_u64 hw
  refine ⟨40, ?_⟩
  unfold weighlocklaw01_NumsFolds.f
  have f1 : 0 ≤ foldZ v ∧ foldZ v < 18446744073709551616 := by unfold foldZ; split <;> omega
  have f2 : -9223372036854775808 ≤ unfoldZ w ∧ unfoldZ w ≤ 9223372036854775807 := by unfold unfoldZ; split <;> omega
  have g1 : unfoldZ (foldZ v) = v := by
    unfold unfoldZ foldZ
    by_cases h : 0 ≤ v
    · rw [if_pos h, if_pos (by omega)]; omega
    · rw [if_neg h, if_neg (by omega)]; omega
  have g2 : foldZ (unfoldZ w) = w := by
    unfold unfoldZ foldZ
    by_cases h : w % 2 = 0
    · rw [if_pos h, if_pos (by omega)]; omega
    · rw [if_neg h, if_neg (by omega)]; omega
  rw [fold_eq v a0 a1, unfold_eq w b0 b1, ref_fold v a0 a1, ref_unfold w b0 b1]
  simp only [Option.bind_some, if_true]
  rw [unfold_eq _ f1.1 f1.2, g1]
  simp only [Option.bind_some, if_true]
  rw [fold_eq _ f2.1 f2.2, g2]
  simp only [Option.bind_some, if_true]
  rw [some_ok]
  rfl
end Go.Proofs.Ytbpdgpaoibcilaa.PureNums
