import Derived.Test.YtlgihjhlkpmpnaaZPureGen
namespace Go.Proofs.Ytlgihjhlkpmpnaa.PureNums
open Go.RowKit Go.Proofs.YtlgihjhlkpmpnaaW.PrintWords Go.Proofs.YtlgihjhlkpmpnaaW.PrintLast Go.Proofs.YtlgihjhlkpmpnaaW.PrintMore Go.Proofs.Ytlgihjhlkpmpnaa.Hand Go.Proofs.Ytlgihjhlkpmpnaa.PWire
set_option linter.unusedVariables false
theorem p256_pos (n : Nat) : (0 : Int) < 256 ^ n := Int.pow_pos (show (0 : Int) < 256 by decide)
theorem p256_mono {a b : Nat} (h : a ≤ b) : (256 : Int) ^ a ≤ 256 ^ b := by
  have h2 := Int.ofNat_le.2 (Nat.pow_le_pow_right (show 0 < 256 by decide) h)
  rw [Int.natCast_pow, Int.natCast_pow] at h2
  exact h2
theorem e256_7 : (256 : Int) ^ 7 = 72057594037927936 := by decide +kernel
/-- the number of the first i bytes, great ones first -/
def rdz (s : ByteArray) : Nat → Int
  | 0 => 0
  | i + 1 => 256 * rdz s i + bt s i
theorem rdz_range (s : ByteArray) (i : Nat) : 0 ≤ rdz s i ∧ rdz s i < 256 ^ i := by
  induction i with
  | zero => simp [rdz]
  | succ i ih =>
    have hb := bt_range s i
    simp only [rdz, Int.pow_succ]
    omega
theorem or_byte (x b : Int) (h0 : 0 ≤ x) (h1 : x < 72057594037927936) (b0 : 0 ≤ b) (b1 : b ≤ 255) : bits .or .u64 (IntKind.u64.wrap (x * 256)) (IntKind.u64.wrap b) = 256 * x + b := by
  rw [wu64 _ (by omega) (by omega), wu64 _ b0 (by omega)]
  have hp : (2 : Int) ^ 64 = 18446744073709551616 := by decide +kernel
  have h8 : (2 : Int) ^ 8 = 256 := by decide +kernel
  rw [bits_join .u64 64 (by decide) wraps_u64 8 (x * 256) b (by omega) (by rw [h8]; exact Int.mul_emod_left _ _) (by rw [hp]; omega) b0 (by rw [h8]; omega) (by rw [hp]; omega)]
  omega
theorem read_loop (s : ByteArray) (hs : s.size ≤ 8) (d : Nat) : ∀ (k i : Nat), i + d = s.size → d < k → nums_Read.l0 k s (rdz s i) s.size i = some (rdz s s.size, 0) := by
  induction d with
  | zero =>
    intro k i hi hk
    obtain ⟨k, rfl⟩ : ∃ m, k = m + 1 := ⟨k - 1, by omega⟩
    simp only [nums_Read.l0]
    obtain rfl : i = s.size := by omega
    rw [if_neg (by omega)]
  | succ d ih =>
    intro k i hi hk
    obtain ⟨k, rfl⟩ : ∃ m, k = m + 1 := ⟨k - 1, by omega⟩
    have hb := bt_range s i
    have hr := rdz_range s i
    have hm := p256_mono (show i ≤ 7 by omega)
    rw [e256_7] at hm
    simp only [nums_Read.l0]
    rw [if_pos (by omega), if_pos (by omega), if_pos (by omega), or_byte _ _ hr.1 (by omega) hb.1 hb.2, w64 _ (by omega) (by omega)]
    exact ih k (i + 1) (by omega) (by omega)
theorem read_eq (s : ByteArray) (k0 : Nat) (hk0 : 20 ≤ k0) : nums_Read.f k0 s = some (if s.size = 0 ∨ 8 < s.size then (0, 1) else (rdz s s.size, 0)) := by
  obtain ⟨k, rfl⟩ : ∃ k, k0 = k + 1 := ⟨k0 - 1, by omega⟩
  unfold nums_Read.f
  by_cases h : s.toList = ([] : List UInt8)
  · rw [if_pos h, if_pos (.inl ((nil_size s).1 h))]
    simp only [nums_Read.j0]
    rw [if_pos trivial]
  · rw [if_neg h]
    have hz : s.size ≠ 0 := fun e => h ((nil_size s).2 e)
    simp only [nums_Read.j0]
    by_cases h8 : (s.size : Int) > 8
    · rw [decide_eq_true h8, if_pos rfl, if_pos (.inr (by omega))]
    · rw [decide_eq_false h8, if_neg (by simp), if_neg (by omega)]
      exact read_loop s (by omega) s.size k 0 (by omega) (by omega)
theorem div_succ (v : Int) (i : Nat) : v / 256 ^ i / 256 = v / 256 ^ (i + 1) := by
  rw [Int.pow_succ, Int.ediv_ediv_of_nonneg (Int.le_of_lt (p256_pos i))]
theorem div_range (v : Int) (i : Nat) (h0 : 0 ≤ v) : 0 ≤ v / 256 ^ i ∧ v / 256 ^ i ≤ v := ⟨Int.ediv_nonneg h0 (Int.le_of_lt (p256_pos i)), Int.ediv_le_self _ h0⟩
theorem fixedL_cons (v : Int) (i : Nat) : fixedL (i + 1) v (i + 1) = (v / 256 ^ i % 256) :: fixedL i v i := by
  unfold fixedL
  rw [List.range_succ_eq_map, List.map_cons, List.map_map]
  congr 1
  apply List.map_congr_left
  intro j hj
  simp only [Function.comp]
  rw [show i + 1 - 1 - (j + 1) = i - 1 - j by omega]
theorem fixed_loop (v : Int) (n : Nat) (h0 : 0 ≤ v) (h1 : v < 18446744073709551616) (d : Nat) : ∀ (k i : Nat), i + d = n → n ≤ 8 → d < k →
    weighlockref01_Fixed.l0 k (v / 256 ^ i) (strOfNums (fixedL i v i)) n i = some (strOfNums (fixedL n v n)) := by
  induction d with
  | zero =>
    intro k i hi hn hk
    obtain ⟨k, rfl⟩ : ∃ m, k = m + 1 := ⟨k - 1, by omega⟩
    simp only [weighlockref01_Fixed.l0]
    obtain rfl : i = n := by omega
    rw [if_neg (by omega)]
  | succ d ih =>
    intro k i hi hn hk
    obtain ⟨k, rfl⟩ : ∃ m, k = m + 1 := ⟨k - 1, by omega⟩
    have hr := div_range v i h0
    have hr2 := div_range v (i + 1) h0
    have ht : Int.tdiv (v / 256 ^ i) 256 = v / 256 ^ (i + 1) := by rw [Int.tdiv_eq_ediv_of_nonneg hr.1, div_succ]
    have hm : Int.tmod (v / 256 ^ i) 256 % 256 = v / 256 ^ i % 256 := by rw [Int.tmod_eq_emod_of_nonneg hr.1]; omega
    simp only [weighlockref01_Fixed.l0]
    rw [if_pos (by omega), hm]
    simp only [Option.bind_some]
    rw [if_pos (by rw [strOfNums_size, strOfNums_size, fixedL_length]; simp; omega), ht, wu64 _ hr2.1 (by omega), w64 _ (by omega) (by omega), ← str_append, List.singleton_append, ← fixedL_cons]
    exact ih k (i + 1) (by omega) hn (by omega)
theorem ref_fixed (v : Int) (n : Nat) (hn : n ≤ 8) (h0 : 0 ≤ v) (h1 : v < 18446744073709551616) (k : Nat) (hk : 20 ≤ k) : weighlockref01_Fixed.f k v n = some (strOfNums (fixedL n v n)) := by
  unfold weighlockref01_Fixed.f
  have := fixed_loop v n h0 h1 n k 0 (by omega) hn (by omega)
  rw [Int.pow_zero, Int.ediv_one] at this
  exact this
end Go.Proofs.Ytlgihjhlkpmpnaa.PureNums
