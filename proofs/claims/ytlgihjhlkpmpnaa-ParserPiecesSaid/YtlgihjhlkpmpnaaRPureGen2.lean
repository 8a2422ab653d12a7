import Derived.Test.YtlgihjhlkpmpnaaRPureGen
namespace Go.Proofs.Ytlgihjhlkpmpnaa.PureNums
open Go.RowKit Go.Proofs.YtlgihjhlkpmpnaaW.PrintWords Go.Proofs.YtlgihjhlkpmpnaaW.PrintLast Go.Proofs.YtlgihjhlkpmpnaaW.PrintMore Go.Proofs.Ytlgihjhlkpmpnaa.Hand Go.Proofs.Ytlgihjhlkpmpnaa.PWire
set_option linter.unusedVariables false
theorem p256_mono {a b : Nat} (h : a ≤ b) : (256 : Int) ^ a ≤ 256 ^ b := by
  have h2 := Int.ofNat_le.2 (Nat.pow_le_pow_right (show 0 < 256 by decide) h)
  rw [Int.natCast_pow, Int.natCast_pow] at h2
  exact h2
theorem e256_7 : (256 : Int) ^ 7 = 72057594037927936 := by decide +kernel
/-- the number of the first i bytes, great ones first -/
def rdz (s : ByteArray) : Nat → Int
  | 0 => 0
  | i + 1 => 256 * rdz s i + bt s i
theorem rdz_range (s : ByteArray) (i : Nat) : 0 ≤ rdz s i ∧ rdz s i < 256 ^ i := by
  induction i with
  | zero => simp [rdz]
  | succ i ih =>
    have hb := bt_range s i
    simp only [rdz, Int.pow_succ]
    omega
theorem or_byte (x b : Int) (h0 : 0 ≤ x) (h1 : x < 72057594037927936) (b0 : 0 ≤ b) (b1 : b ≤ 255) : bits .or .u64 (IntKind.u64.wrap (x * 256)) (IntKind.u64.wrap b) = 256 * x + b := by
  rw [wu64 _ (by omega) (by omega), wu64 _ b0 (by omega)]
  have hp : (2 : Int) ^ 64 = 18446744073709551616 := by decide +kernel
  have h8 : (2 : Int) ^ 8 = 256 := by decide +kernel
  rw [bits_join .u64 64 (by decide) wraps_u64 8 (x * 256) b (by omega) (by rw [h8]; exact Int.mul_emod_left _ _) (by rw [hp]; omega) b0 (by rw [h8]; omega) (by rw [hp]; omega)]
  omega
theorem read_loop (s : ByteArray) (hs : s.size ≤ 8) (d : Nat) : ∀ (k i : Nat), i + d = s.size → d < k → nums_Read.l0 k s (rdz s i) s.size i = some (rdz s s.size, 0) := by
  induction d with
  | zero =>
    intro k i hi hk
    obtain ⟨k, rfl⟩ : ∃ m, k = m + 1 := ⟨k - 1, by omega⟩
    simp only [nums_Read.l0]
    obtain rfl : i = s.size := by omega
    rw [if_neg (by omega)]
  | succ d ih =>
    intro k i hi hk
    obtain ⟨k, rfl⟩ : ∃ m, k = m + 1 := ⟨k - 1, by omega⟩
    have hb := bt_range s i
    have hr := rdz_range s i
    have hm := p256_mono (show i ≤ 7 by omega)
    rw [e256_7] at hm
    simp only [nums_Read.l0]
    rw [if_pos (by omega), if_pos (by omega), if_pos (by omega), or_byte _ _ hr.1 (by omega) hb.1 hb.2, w64 _ (by omega) (by omega)]
    exact ih k (i + 1) (by omega) (by omega)
theorem read_eq (s : ByteArray) (k0 : Nat) (hk0 : 20 ≤ k0) : nums_Read.f k0 s = some (if s.size = 0 ∨ 8 < s.size then (0, 1) else (rdz s s.size, 0)) := by
  obtain ⟨k, rfl⟩ : ∃ k, k0 = k + 1 := ⟨k0 - 1, by omega⟩
  unfold nums_Read.f
  by_cases h : s.toList = ([] : List UInt8)
  · rw [if_pos h, if_pos (.inl ((nil_size s).1 h))]
    simp only [nums_Read.j0]
    rw [if_pos trivial]
  · rw [if_neg h]
    have hz : s.size ≠ 0 := fun e => h ((nil_size s).2 e)
    simp only [nums_Read.j0]
    by_cases h8 : (s.size : Int) > 8
    · rw [decide_eq_true h8, if_pos rfl, if_pos (.inr (by omega))]
    · rw [decide_eq_false h8, if_neg (by simp), if_neg (by omega)]
      exact read_loop s (by omega) s.size k 0 (by omega) (by omega)
end Go.Proofs.Ytlgihjhlkpmpnaa.PureNums
