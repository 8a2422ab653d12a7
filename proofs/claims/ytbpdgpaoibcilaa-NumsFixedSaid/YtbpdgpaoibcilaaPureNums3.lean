import Derived.Test.YtbpdgpaoibcilaaPureNums2
namespace Go.Proofs.Ytbpdgpaoibcilaa.PureNums
open Go.RowKit Go.Proofs.YtbpdgpaoibcilaaW.PrintWords Go.Proofs.YtbpdgpaoibcilaaW.PrintLast Go.Proofs.YtbpdgpaoibcilaaW.PrintMore Go.Proofs.Ytbpdgpaoibcilaa.Hand Go.Proofs.Ytbpdgpaoibcilaa.PNums
set_option linter.unusedVariables false

theorem p2_pos (n : Nat) : (0 : Int) < 2 ^ n := Int.pow_pos (by decide)
theorem p2_mono {a b : Nat} (h : a ≤ b) : (2 : Int) ^ a ≤ 2 ^ b := by
  have := Nat.pow_le_pow_right (show 0 < 2 by decide) h
  exact_mod_cast this
theorem e64 : (2 : Int) ^ 64 = 18446744073709551616 := by decide +kernel
theorem e63 : (2 : Int) ^ 63 = 9223372036854775808 := by decide +kernel
/-- the low n bits of v -/
def lowZ (v : Int) (n : Nat) : Int := v % 2 ^ n
theorem lowZ_range (v : Int) (n : Nat) : 0 ≤ lowZ v n ∧ lowZ v n < 2 ^ n := ⟨Int.emod_nonneg _ (Int.ne_of_gt (p2_pos n)), Int.emod_lt_of_pos _ (p2_pos n)⟩
theorem lowZ_big (v : Int) (n : Nat) (hn : 64 ≤ n) (h0 : 0 ≤ v) (h1 : v < 18446744073709551616) : lowZ v n = v := by
  unfold lowZ
  have := p2_mono hn
  rw [e64] at this
  exact Int.emod_eq_of_lt h0 (by omega)
theorem lowZ_succ (v : Int) (n : Nat) : lowZ v (n + 1) = lowZ v n + (v / 2 ^ n % 2) * 2 ^ n := by
  unfold lowZ
  have hp := p2_pos n
  rw [Int.pow_succ]
  generalize (2 : Int) ^ n = p at *
  have h1 := Int.emod_add_mul_ediv v p
  have h2 := Int.emod_add_mul_ediv (v / p) 2
  have h3 := Int.emod_add_mul_ediv v (p * 2)
  have h4 : v / (p * 2) = v / p / 2 := by rw [Int.ediv_ediv_of_nonneg (by omega)]
  rw [h4] at h3
  generalize v / p = q at *
  generalize q / 2 = r at *
  have e : p * 2 * r = p * (2 * r) := by rw [Int.mul_assoc]
  have e2 : p * (q % 2 + 2 * r) = q % 2 * p + p * (2 * r) := by rw [Int.mul_add, Int.mul_comm p (q % 2)]
  rw [h2] at e2
  omega
theorem low_eq (v n : Int) (h0 : 0 ≤ v) (h1 : v < 18446744073709551616) : nums_Low.f v n = some (lowZ v n.toNat) := by
  unfold nums_Low.f
  by_cases h : n ≥ 64
  · rw [if_pos h, lowZ_big v _ (by omega) h0 h1]
  · rw [if_neg h]
    have hm : (mx n 0).toNat = n.toNat := by unfold mx; omega
    have hlt : n.toNat < 64 := by omega
    have hp := p2_pos n.toNat
    have hle := p2_mono (show n.toNat ≤ 63 by omega)
    rw [e63] at hle
    have e1 : shl .u64 1 (mx n 0) = 2 ^ n.toNat := by
      unfold shl
      rw [hm, Nat.min_eq_left (show n.toNat ≤ IntKind.u64.bits by show n.toNat ≤ 64; omega), Int.one_mul, wu64 _ (by omega) (by omega)]
    rw [e1, wu64 _ (by omega) (by omega)]
    rw [bits_mask .u64 64 (by decide) wraps_u64 n.toNat (by omega) v h0 (by rw [e64]; exact h1)]
    rfl
theorem ref_low_loop (v n : Int) (h0 : 0 ≤ v) (h1 : v < 18446744073709551616) (d : Nat) : ∀ (k i : Nat), i + d = 64 → d < k →
    weighlockref01_Low.l0 k (v / 2 ^ i) n (lowZ v (min i n.toNat)) (IntKind.u64.wrap (2 ^ i)) i = some (lowZ v n.toNat) := by
  induction d with
  | zero =>
    intro k i hi hk
    obtain ⟨k, rfl⟩ : ∃ m, k = m + 1 := ⟨k - 1, by omega⟩
    simp only [weighlockref01_Low.l0]
    rw [if_neg (by omega)]
    by_cases h : n.toNat ≤ 64
    · rw [Nat.min_eq_right (by omega)]
    · rw [Nat.min_eq_left (by omega), lowZ_big v i (by omega) h0 h1, lowZ_big v _ (by omega) h0 h1]
  | succ d ih =>
    intro k i hi hk
    obtain ⟨k, rfl⟩ : ∃ m, k = m + 1 := ⟨k - 1, by omega⟩
    have hp := p2_pos i
    have hle := p2_mono (show i ≤ 63 by omega)
    rw [e63] at hle
    have q0 : 0 ≤ v / 2 ^ i := Int.ediv_nonneg h0 (by omega)
    have q1 : v / 2 ^ i ≤ v := Int.ediv_le_self _ h0
    have w2 : IntKind.u64.wrap (2 ^ i) = 2 ^ i := wu64 _ (by omega) (by omega)
    have hd : Int.tdiv (v / 2 ^ i) 2 = v / 2 ^ (i + 1) := by
      rw [Int.tdiv_eq_ediv_of_nonneg q0, Int.pow_succ, Int.ediv_ediv_of_nonneg (by omega)]
    have hd0 : 0 ≤ v / 2 ^ (i + 1) := Int.ediv_nonneg h0 (Int.le_of_lt (p2_pos _))
    have hd1 : v / 2 ^ (i + 1) ≤ v := Int.ediv_le_self _ h0
    have w3 : IntKind.u64.wrap (2 * IntKind.u64.wrap (2 ^ i)) = IntKind.u64.wrap (2 ^ (i + 1)) := by rw [w2, Int.pow_succ, Int.mul_comm]
    have ht : Int.tmod (v / 2 ^ i) 2 = v / 2 ^ i % 2 := Int.tmod_eq_emod_of_nonneg q0
    have ci : ((i + 1 : Nat) : Int) = (i : Int) + 1 := rfl
    have hnext := ih k (i + 1) (by omega) (by omega)
    have hs := lowZ_succ v i
    have hr := lowZ_range v i
    simp only [weighlockref01_Low.l0]
    rw [if_pos (by omega), hd, w3, wu64 _ hd0 (by omega), w64 _ (by omega) (by omega), ht, ← ci]
    by_cases h : (i : Int) < n
    · rw [if_pos h]
      have m1 : min i n.toNat = i := Nat.min_eq_left (by omega)
      have m2 : min (i + 1) n.toNat = i + 1 := Nat.min_eq_left (by omega)
      rw [m2, hs] at hnext
      rw [m1]
      by_cases hb : v / 2 ^ i % 2 = 1
      · rw [if_pos hb, w2, wu64 _ (by omega) (by omega)]
        rw [hb, Int.one_mul] at hnext
        exact hnext
      · rw [if_neg hb]
        have hb0 : v / 2 ^ i % 2 = 0 := by omega
        rw [hb0, Int.zero_mul, Int.add_zero] at hnext
        exact hnext
    · rw [if_neg h]
      have m1 : min i n.toNat = n.toNat := Nat.min_eq_right (by omega)
      have m2 : min (i + 1) n.toNat = n.toNat := Nat.min_eq_right (by omega)
      rw [m2] at hnext
      rw [m1]
      exact hnext
theorem ref_low (v n : Int) (h0 : 0 ≤ v) (h1 : v < 18446744073709551616) (k : Nat) (hk : 65 ≤ k) : weighlockref01_Low.f k v n = some (lowZ v n.toNat) := by
  unfold weighlockref01_Low.f
  have := ref_low_loop v n h0 h1 64 k 0 (by omega) (by omega)
  have e1 : IntKind.u64.wrap (2 ^ 0) = 1 := by decide +kernel
  have e2 : lowZ v (min 0 n.toNat) = 0 := by simp [lowZ]
  rw [e1, e2, Int.pow_zero, Int.ediv_one] at this
  exact this

/-- low bits with a sign; n of 1 to 64 -/
def sgnZ (v : Int) (n : Nat) : Int := if lowZ v n < 2 ^ (n - 1) then lowZ v n else lowZ v n - 2 ^ n
def clampN (n : Int) : Nat := if n < 1 then 1 else if n > 64 then 64 else n.toNat
theorem clampN_range (n : Int) : 1 ≤ clampN n ∧ clampN n ≤ 64 := by
  unfold clampN
  split
  · omega
  · split <;> omega
theorem p2_split (a : Nat) (h : 1 ≤ a) : (2 : Int) ^ a = 2 * 2 ^ (a - 1) := by
  obtain ⟨b, rfl⟩ : ∃ b, a = b + 1 := ⟨a - 1, by omega⟩
  rw [Int.pow_succ, Nat.add_sub_cancel, Int.mul_comm]
theorem signed_eq (v n : Int) (h0 : 0 ≤ v) (h1 : v < 18446744073709551616) : nums_Signed.f v n = some (sgnZ v (clampN n)) := by
  unfold nums_Signed.f sgnZ
  have hc := clampN_range n
  have he : (64 - (mn (mx n 1) 64)).toNat = 64 - clampN n := by
    unfold mn mx clampN
    repeat' split
    all_goals omega
  rw [he]
  generalize hm : clampN n = m at *
  have hr := lowZ_range v m
  have hs := p2_split m hc.1
  obtain ⟨a, ha⟩ : ∃ a, 64 - m = a := ⟨_, rfl⟩
  rw [ha]
  have hpa := p2_pos a
  have hpm : (2 : Int) ^ m * 2 ^ a = 18446744073709551616 := by rw [← Int.pow_add, show m + a = 64 by omega, e64]
  have hw : IntKind.u64.wrap (v * 2 ^ a) = lowZ v m * 2 ^ a := by
    have e : IntKind.u64.wrap (v * 2 ^ a) = (v * 2 ^ a) % 18446744073709551616 := by simp [IntKind.wrap, IntKind.bits, IntKind.signed]
    rw [e, ← hpm, Int.mul_comm (2 ^ m) (2 ^ a), Int.mul_comm v, Int.mul_emod_mul_of_pos _ _ hpa, Int.mul_comm]
    rfl
  rw [hw]
  have hhalf : (2 : Int) ^ (m - 1) * 2 ^ a = 9223372036854775808 := by rw [← Int.pow_add, show m - 1 + a = 63 by omega, e63]
  congr 1
  by_cases h : lowZ v m < 2 ^ (m - 1)
  · rw [if_pos h]
    have h2 : lowZ v m * 2 ^ a < 9223372036854775808 := by rw [← hhalf]; exact Int.mul_lt_mul_of_pos_right h hpa
    have h3 : 0 ≤ lowZ v m * 2 ^ a := Int.mul_nonneg hr.1 (by omega)
    rw [w64 _ (by omega) (by omega), Int.mul_ediv_cancel _ (by omega)]
  · rw [if_neg h]
    have h2 : 9223372036854775808 ≤ lowZ v m * 2 ^ a := by rw [← hhalf]; exact Int.mul_le_mul_of_nonneg_right (by omega) (by omega)
    have h3 : lowZ v m * 2 ^ a < 18446744073709551616 := by rw [← hpm]; exact Int.mul_lt_mul_of_pos_right hr.2 hpa
    have e : wrap64 (lowZ v m * 2 ^ a) = (lowZ v m - 2 ^ m) * 2 ^ a := by
      rw [Int.sub_mul, hpm]
      unfold wrap64
      omega
    rw [e, Int.mul_ediv_cancel _ (by omega)]
theorem ref_signed_loop (v : Int) (m : Nat) (h1 : 1 ≤ m) (h2 : m ≤ 64) (hv0 : 0 ≤ v) (hv1 : v < 18446744073709551616) (d : Nat) : ∀ (k i : Nat), i + d = m - 1 → d + 70 < k →
    weighlockref01_Signed.l0 k v m (2 ^ i) ((m : Int) - 1) i = some (sgnZ v m) := by
  induction d with
  | zero =>
    intro k i hi hk
    obtain ⟨k, rfl⟩ : ∃ m, k = m + 1 := ⟨k - 1, by omega⟩
    simp only [weighlockref01_Signed.l0]
    rw [if_neg (by omega), ref_low v m hv0 hv1 k (by omega), Int.toNat_natCast]
    simp only [Option.bind_some]
    have hr := lowZ_range v m
    have hs := p2_split m h1
    have hp := p2_pos (m - 1)
    have hle := p2_mono (show m - 1 ≤ 63 by omega)
    rw [e63] at hle
    obtain rfl : i = m - 1 := by omega
    unfold sgnZ
    by_cases h : lowZ v m < 2 ^ (m - 1)
    · rw [if_pos h, if_pos h, w64 _ (by omega) (by omega)]
    · rw [if_neg h, if_neg h, hs]
      generalize lowZ v m = l at *
      generalize (2 : Int) ^ (m - 1) = p at *
      have a1 : IntKind.u64.wrap (l - p) = l - p := wu64 _ (by omega) (by omega)
      have a2 : IntKind.u64.wrap (p - (l - p)) = p - (l - p) := wu64 _ (by omega) (by omega)
      have a3 : IntKind.u64.wrap (p - (l - p) - 1) = p - (l - p) - 1 := wu64 _ (by omega) (by omega)
      have a4 : wrap64 (p - (l - p) - 1) = p - (l - p) - 1 := w64 _ (by omega) (by omega)
      have a5 : wrap64 (-(p - (l - p) - 1)) = -(p - (l - p) - 1) := w64 _ (by omega) (by omega)
      have a6 : wrap64 (-(p - (l - p) - 1) - 1) = -(p - (l - p) - 1) - 1 := w64 _ (by omega) (by omega)
      rw [a1, a2, a3, a4, a5, a6]
      congr 1; omega
  | succ d ih =>
    intro k i hi hk
    obtain ⟨k, rfl⟩ : ∃ m, k = m + 1 := ⟨k - 1, by omega⟩
    have hnext := ih k (i + 1) (by omega) (by omega)
    have hp := p2_pos i
    have hle := p2_mono (show i ≤ 62 by omega)
    have e62 : (2 : Int) ^ 62 = 4611686018427387904 := by decide +kernel
    rw [e62] at hle
    simp only [weighlockref01_Signed.l0]
    rw [if_pos (by omega), wu64 _ (by omega) (by omega), w64 _ (by omega) (by omega)]
    rw [Int.pow_succ, Int.mul_comm] at hnext
    exact hnext
theorem ref_signed (v n : Int) (h0 : 0 ≤ v) (h1 : v < 18446744073709551616) (k0 : Nat) (hk0 : 150 ≤ k0) : weighlockref01_Signed.f k0 v n = some (sgnZ v (clampN n)) := by
  obtain ⟨k, rfl⟩ : ∃ k, k0 = k + 2 := ⟨k0 - 2, by omega⟩
  have hc := clampN_range n
  have tail : ∀ m : Nat, 1 ≤ m → m ≤ 64 → weighlockref01_Signed.j1 (k + 1) v m = some (sgnZ v m) := by
    intro m a b
    simp only [weighlockref01_Signed.j1]
    rw [w64 _ (by omega) (by omega)]
    have := ref_signed_loop v m a b h0 h1 (m - 1) k 0 (by omega) (by omega)
    rw [Int.pow_zero] at this
    exact this
  unfold weighlockref01_Signed.f
  by_cases a : n < 1
  · rw [if_pos a]
    simp only [weighlockref01_Signed.j0]
    rw [if_neg (by omega), show clampN n = 1 by unfold clampN; rw [if_pos a]]
    exact tail 1 (by omega) (by omega)
  · rw [if_neg a]
    simp only [weighlockref01_Signed.j0]
    by_cases b : n > 64
    · rw [if_pos b, show clampN n = 64 by unfold clampN; rw [if_neg a, if_pos b]]
      exact tail 64 (by omega) (by omega)
    · rw [if_neg b, show clampN n = n.toNat by unfold clampN; rw [if_neg a, if_neg b]]
      have := tail n.toNat (by omega) (by omega)
      rwa [Int.toNat_of_nonneg (by omega)] at this
theorem NumsLow : weighlocklaw01_NumsLow.Pure := by
  intro v n hv hn
  obtain ⟨h0, h1⟩ := wf_u64 hv
  refine ⟨150, ?_⟩
  unfold weighlocklaw01_NumsLow.f
  rw [low_eq v n h0 h1, ref_low v n h0 h1 150 (by omega), signed_eq v n h0 h1, ref_signed v n h0 h1 150 (by omega), signed_eq v 64 h0 h1, low_eq v 64 h0 h1]
  simp only [Option.bind_some, if_true]
  have e1 : sgnZ v (clampN 64) = wrap64 v := by
    have c : clampN 64 = 64 := by decide +kernel
    unfold sgnZ
    rw [c, lowZ_big v 64 (by omega) h0 h1, e64, show (2 : Int) ^ (64 - 1) = 9223372036854775808 from e63]
    unfold wrap64
    split <;> omega
  have e2 : lowZ v (64 : Int).toNat = v := lowZ_big v _ (by decide) h0 h1
  rw [if_pos e1, if_pos e2, at_rounds (g := fun k => weighlocklaw01_some.f k) weighlocklaw01_some.mono (by omega) some_ok]
  rfl
end Go.Proofs.Ytbpdgpaoibcilaa.PureNums
