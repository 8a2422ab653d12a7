import Derived.Test.YtohhlkabejangaaUPOfx0
import Derived.Test.YtohhlkabejangaaUPOfx1
import Derived.Test.YtohhlkabejangaaUPOfx2
import Derived.Test.YtohhlkabejangaaUPOfx3
import Derived.Test.YtohhlkabejangaaUPOfx4
import Derived.Test.YtohhlkabejangaaUPOfx5
import Derived.Test.YtohhlkabejangaaUPOfx6
import Derived.Test.YtohhlkabejangaaUPOfx7
import Derived.Test.YtohhlkabejangaaUPOfx8
import Derived.Test.YtohhlkabejangaaUPOfx9
import Derived.Test.YtohhlkabejangaaUPOfx10
namespace Go.Proofs.Ytohhlkabejangaa.PureNums
open Go.RowKit Go.Proofs.YtohhlkabejangaaW.PrintWords Go.Proofs.YtohhlkabejangaaW.PrintLast Go.Proofs.YtohhlkabejangaaW.PrintMore Go.Proofs.Ytohhlkabejangaa.Hand Go.Proofs.Ytohhlkabejangaa.POf
set_option linter.unusedVariables false
theorem w64 (x : Int) (h0 : -9223372036854775808 ≤ x) (h1 : x ≤ 9223372036854775807) : wrap64 x = x := by unfold wrap64; omega
theorem wu64 (x : Int) (h0 : 0 ≤ x) (h1 : x < 18446744073709551616) : IntKind.u64.wrap x = x := by
  simp [IntKind.wrap, IntKind.bits, IntKind.signed]; omega
theorem wraps_u64 (n : Int) (h0 : 0 ≤ n) (h1 : n < 2 ^ 64) : IntKind.u64.wrap n = n := wu64 n h0 (by simpa using h1)
theorem and127 (x : Int) (h0 : 0 ≤ x) (h1 : x ≤ 255) : bits .and .u8 x 127 = x % 128 := bits_mask .u8 8 (by decide) wraps_u8 7 (by decide) x h0 (by omega)
def pv (s : ByteArray) : Nat → Int
  | 0 => 0
  | n + 1 => pv s n + (bt s n % 128) * 128 ^ n
theorem p128_pos (n : Nat) : (0 : Int) < 128 ^ n := Int.pow_pos (by decide)
theorem pv_range (s : ByteArray) (n : Nat) : 0 ≤ pv s n ∧ pv s n < 128 ^ n := by
  induction n with
  | zero => simp [pv]
  | succ n ih =>
    have hb := bt_range s n
    have hp := p128_pos n
    simp only [pv, Int.pow_succ]
    generalize (128 : Int) ^ n = p at *
    have h1 : 0 ≤ bt s n % 128 := Int.emod_nonneg _ (by decide)
    have h2 : bt s n % 128 ≤ 127 := by omega
    have h3 : 0 ≤ (bt s n % 128) * p := Int.mul_nonneg h1 (by omega)
    have h4 : (bt s n % 128) * p ≤ 127 * p := Int.mul_le_mul_of_nonneg_right h2 (by omega)
    omega
theorem pow7 (n : Nat) : (2 : Int) ^ (7 * n) = 128 ^ n := by rw [Int.pow_mul]; rfl
theorem or_shl (x b : Int) (n : Nat) (hn : n ≤ 9) (hx0 : 0 ≤ x) (hx : x < 128 ^ n) (hb0 : 0 ≤ b) (hb1 : b ≤ 255) (hb9 : n = 9 → b ≤ 1) :
    bits .or .u64 x (shl .u64 (IntKind.u64.wrap (bits .and .u8 b 127)) (wrap64 (7 * (n : Int)))) = x + (b % 128) * 128 ^ n := by
  have h1 : 0 ≤ b % 128 := Int.emod_nonneg _ (by decide)
  have h2 : b % 128 ≤ 127 := by omega
  rw [and127 b hb0 hb1, wu64 _ h1 (by omega), w64 _ (by omega) (by omega)]
  unfold shl
  have e : (7 * (n : Int)).toNat = 7 * n := by omega
  have m : min (7 * n) IntKind.u64.bits = 7 * n := Nat.min_eq_left (by show 7 * n ≤ 64; omega)
  rw [e, m, pow7]
  have hlt : (b % 128) * 128 ^ n < 18446744073709551616 := by
    by_cases h9 : n = 9
    · have := hb9 h9
      subst h9
      have : b % 128 ≤ 1 := by omega
      have e9 : (128 : Int) ^ 9 = 9223372036854775808 := by decide
      rw [e9]; omega
    · have hle : n ≤ 8 := by omega
      have hp : (128 : Int) ^ n ≤ 128 ^ 8 := by
        have := Nat.pow_le_pow_right (show 0 < 128 by decide) hle
        exact_mod_cast this
      have e8 : (128 : Int) ^ 8 = 72057594037927936 := by decide
      rw [e8] at hp
      have := p128_pos n
      generalize (128 : Int) ^ n = p at *
      have h4 : (b % 128) * p ≤ 127 * p := Int.mul_le_mul_of_nonneg_right h2 (by omega)
      omega
  have hge : 0 ≤ (b % 128) * 128 ^ n := Int.mul_nonneg h1 (Int.le_of_lt (p128_pos n))
  rw [wu64 _ hge hlt]
  have hlt64 : (b % 128) * 128 ^ n < 2 ^ 64 := by have : (2 : Int) ^ 64 = 18446744073709551616 := by decide +kernel
                                                  rw [this]; exact hlt
  have hx64 : x < 2 ^ 64 := by
    have hp : (128 : Int) ^ n ≤ 128 ^ 9 := by
      have := Nat.pow_le_pow_right (show 0 < 128 by decide) hn
      exact_mod_cast this
    have e9 : (128 : Int) ^ 9 = 9223372036854775808 := by decide
    rw [e9] at hp
    have : (2 : Int) ^ 64 = 18446744073709551616 := by decide
    omega
  have hor : bits .or .u64 x ((b % 128) * 128 ^ n) = bits .or .u64 ((b % 128) * 128 ^ n) x := by
    obtain ⟨a, rfl⟩ := Int.eq_ofNat_of_zero_le hx0
    obtain ⟨c, hc⟩ := Int.eq_ofNat_of_zero_le hge
    rw [hc]
    rw [(bits_nat .u64 64 (by decide) wraps_u64 a c (by exact_mod_cast hx64) (by rw [hc] at hlt64; exact_mod_cast hlt64)).2]
    rw [(bits_nat .u64 64 (by decide) wraps_u64 c a (by rw [hc] at hlt64; exact_mod_cast hlt64) (by exact_mod_cast hx64)).2]
    rw [Nat.or_comm]
  rw [hor, bits_join .u64 64 (by decide) wraps_u64 (7 * n) ((b % 128) * 128 ^ n) x hge (by rw [pow7]; exact Int.mul_emod_left _ _) hlt64 hx0 (by rw [pow7]; exact hx) hx64]
  omega
structure Run (s : ByteArray) (n : Nat) : Prop where
  le : n ≤ 10
  on : ∀ i : Nat, i < n → i < s.size ∧ 128 ≤ bt s i
  out : n = 10 ∨ n = s.size ∨ (n < s.size ∧ bt s n < 128)
theorem run_is (s : ByteArray) : ∃ n, Run s n := by
  have key : ∀ m : Nat, m ≤ 10 → (∃ n, Run s n) ∨ (∀ i : Nat, i < m → i < s.size ∧ 128 ≤ bt s i) := by
    intro m
    induction m with
    | zero => intro _; exact .inr (fun i hi => absurd hi (by omega))
    | succ m ih =>
      intro hm
      rcases ih (by omega) with h | h
      · exact .inl h
      · by_cases hs : m < s.size ∧ 128 ≤ bt s m
        · refine .inr (fun i hi => ?_)
          by_cases e : i = m
          · subst e; exact hs
          · exact h i (by omega)
        · refine .inl ⟨m, by omega, h, ?_⟩
          have hle : m ≤ s.size := by
            by_cases e : m = 0
            · omega
            · have := (h (m - 1) (by omega)).1; omega
          by_cases e : m = s.size
          · exact .inr (.inl e)
          · exact .inr (.inr ⟨by omega, by
            by_cases q : 128 ≤ bt s m
            · exact absurd ⟨by omega, q⟩ hs
            · omega⟩)
  rcases key 10 (by omega) with h | h
  · exact h
  · exact ⟨10, by omega, h, .inl rfl⟩
def unch (s : ByteArray) (n : Nat) : Int × Int × Int :=
  if n = 10 ∨ (n = 9 ∧ 9 < s.size ∧ 1 < bt s 9) then (0, 0, 4) else if n = s.size then (0, 0, 3) else if 0 < n ∧ bt s n = 0 then (0, 0, 4) else (pv s (n + 1), (n : Int) + 1, 0)
theorem nums_on (s : ByteArray) (n : Nat) (hn : n ≤ 9) (hon : n < s.size ∧ 128 ≤ bt s n) (h9 : n = 9 → bt s n ≤ 1) (k : Nat) :
    nums_Unchain.l0 (k + 3) s (pv s n) n = nums_Unchain.l0 k s (pv s (n + 1)) ((n + 1 : Nat) : Int) := by
  have hb := bt_range s n
  have hr := pv_range s n
  have hor := or_shl (pv s n) (bt s n) n hn hr.1 hr.2 hb.1 hb.2 h9
  have hne : ¬ (n = 9) := fun e => by have := h9 e; omega
  simp only [nums_Unchain.l0]
  rw [if_pos (by omega), if_neg (by omega), if_pos (by omega), if_pos (by omega), if_neg (by omega)]
  simp only [nums_Unchain.j1]
  rw [if_neg (by simp), if_neg (by omega)]
  simp only [nums_Unchain.j2]
  rw [if_neg (by simp), if_pos (by rw [w64 _ (by omega) (by omega)]; omega), if_neg (by omega), hor, w64 _ (by omega) (by omega)]
  simp only [pv]
  norm_cast
theorem nums_to (s : ByteArray) (n : Nat) (hn : n ≤ 9) (hon : ∀ i : Nat, i < n → i < s.size ∧ 128 ≤ bt s i) (k : Nat) :
    nums_Unchain.l0 (k + 3 * n) s 0 0 = nums_Unchain.l0 k s (pv s n) n := by
  induction n generalizing k with
  | zero => simp [pv]
  | succ n ih =>
    rw [show k + 3 * (n + 1) = (k + 3) + 3 * n by omega, ih (by omega) (fun i hi => hon i (by omega)) (k + 3)]
    exact nums_on s n (by omega) (hon n (by omega)) (fun e => by omega) k
theorem nums_spec (s : ByteArray) (n : Nat) (h : Run s n) : nums_Unchain.f 30 s = some (unch s n) := by
  unfold nums_Unchain.f unch
  have hle := h.le
  by_cases h10 : n = 10
  · subst h10
    rw [if_pos (.inl rfl)]
    have c9 : ((9 : Nat) : Int) = 9 := rfl
    have h9 := h.on 9 (by omega)
    rw [c9] at h9
    rw [show 30 = 3 + 3 * 9 by rfl, nums_to s 9 (by omega) (fun i hi => h.on i (by omega)) 3]
    simp only [nums_Unchain.l0]
    rw [if_pos (by decide), if_neg (by omega), if_pos (by decide), if_pos (by omega), if_pos (by rfl)]
    simp only [nums_Unchain.j1]
    rw [if_pos (by simp; have := h9.2; omega)]
  · have hn : n ≤ 9 := by omega
    rw [show 30 = ((27 - 3 * n) + 3) + 3 * n by omega, nums_to s n hn h.on _]
    generalize 27 - 3 * n = k
    have hb := bt_range s n
    have hr := pv_range s n
    rcases h.out with h' | h' | ⟨hs, hlt⟩
    · exact absurd h' h10
    · rw [if_neg (by omega), if_pos h']
      simp only [nums_Unchain.l0]
      rw [if_pos (by omega), if_pos (by omega)]
    · simp only [nums_Unchain.l0]
      rw [if_pos (by omega), if_neg (by omega), if_pos (by omega), if_pos (by omega)]
      by_cases h9 : n = 9
      · subst h9
        have c9 : ((9 : Nat) : Int) = 9 := rfl
        rw [c9] at hb hlt ⊢
        rw [if_pos (by rfl)]
        by_cases hb1 : 1 < bt s 9
        · rw [if_pos (.inr ⟨rfl, hs, hb1⟩)]
          simp only [nums_Unchain.j1]
          rw [if_pos (by simpa using hb1)]
        · rw [if_neg (by omega), if_neg (by omega)]
          simp only [nums_Unchain.j1]
          rw [if_neg (by simpa using hb1)]
          by_cases hb0 : bt s 9 = 0
          · rw [if_pos hb0, if_pos ⟨by omega, hb0⟩]
            simp only [nums_Unchain.j2]
            rw [if_pos (by decide)]
          · rw [if_neg hb0, if_neg (fun e => hb0 e.2)]
            simp only [nums_Unchain.j2]
            have hor := or_shl (pv s 9) (bt s 9) 9 (by omega) hr.1 hr.2 hb.1 hb.2 (fun _ => by omega)
            rw [c9] at hor
            rw [if_neg (by simp), if_pos (by rw [w64 _ (by omega) (by omega)]; omega), if_pos hlt, hor, w64 _ (by omega) (by omega)]
            rfl
      · rw [if_neg (by omega), if_neg (by omega), if_neg (by omega)]
        simp only [nums_Unchain.j1]
        rw [if_neg (by simp)]
        have hor := or_shl (pv s n) (bt s n) n hn hr.1 hr.2 hb.1 hb.2 (fun e => absurd e h9)
        by_cases hb0 : bt s n = 0
        · rw [if_pos hb0]
          by_cases hn0 : 0 < n
          · rw [if_pos ⟨hn0, hb0⟩]
            simp only [nums_Unchain.j2]
            rw [if_pos (by simpa using hn0)]
          · rw [if_neg (fun e => hn0 e.1)]
            simp only [nums_Unchain.j2]
            rw [if_neg (by simp; omega), if_pos (by rw [w64 _ (by omega) (by omega)]; omega), if_pos hlt, hor, w64 _ (by omega) (by omega)]
            rfl
        · rw [if_neg hb0, if_neg (fun e => hb0 e.2)]
          simp only [nums_Unchain.j2]
          rw [if_neg (by simp), if_pos (by rw [w64 _ (by omega) (by omega)]; omega), if_pos hlt, hor, w64 _ (by omega) (by omega)]
          rfl
theorem ref_to (s : ByteArray) (n : Nat) (hn : n ≤ 10) (hon : ∀ i : Nat, i < n → i < s.size ∧ 128 ≤ bt s i) (k : Nat) :
    weighlockref01_Unchain.l0 (k + n) s 0 = weighlockref01_Unchain.l0 k s n := by
  induction n generalizing k with
  | zero => rfl
  | succ n ih =>
    have h1 := hon n (by omega)
    rw [show k + (n + 1) = (k + 1) + n by omega, ih (by omega) (fun i hi => hon i (by omega)) (k + 1)]
    simp only [weighlockref01_Unchain.l0]
    rw [if_pos (by omega), if_pos (by omega), if_pos (by omega), if_pos (by omega), w64 _ (by omega) (by omega)]
    norm_cast
def rv (s : ByteArray) : Nat → Nat → Int
  | _, 0 => 0
  | m, j + 1 => bt s m % 128 + 128 * rv s (m + 1) j
theorem pv_rv (s : ByteArray) (j : Nat) : ∀ m, pv s (m + j) = pv s m + 128 ^ m * rv s m j := by
  induction j with
  | zero => intro m; simp [rv]
  | succ j ih =>
    intro m
    have := ih (m + 1)
    rw [show m + (j + 1) = m + 1 + j by omega, this]
    simp only [pv, rv, Int.pow_succ]
    rw [Int.mul_add, Int.mul_comm (bt s m % 128), ← Int.mul_assoc]
    omega
theorem rv_range (s : ByteArray) (j : Nat) : ∀ m, 0 ≤ rv s m j ∧ rv s m j < 128 ^ j := by
  induction j with
  | zero => intro m; simp [rv]
  | succ j ih =>
    intro m
    have := ih (m + 1)
    have hb := bt_range s m
    simp only [rv, Int.pow_succ]
    omega
theorem ref_back (s : ByteArray) (n : Nat) (hs : n < s.size) (hn : n ≤ 9) (h9 : n = 9 → bt s 9 ≤ 1) (m : Nat) (hm : m ≤ n + 1) (k : Nat) :
    weighlockref01_Unchain.l1 (k + m + 1) s n (rv s m (n + 1 - m)) ((m : Int) - 1) = some (rv s 0 (n + 1), (n : Int) + 1, 0) := by
  induction m with
  | zero =>
    simp only [weighlockref01_Unchain.l1]
    rw [if_neg (by omega), w64 _ (by omega) (by omega)]
    rfl
  | succ m ih =>
    have hb := bt_range s m
    simp only [weighlockref01_Unchain.l1]
    have e : ((m + 1 : Nat) : Int) - 1 = (m : Int) := by omega
    rw [e, if_pos (by omega), if_pos (by omega), if_pos (by omega)]
    have hrr := rv_range s (n + 1 - (m + 1)) (m + 1)
    have ht : Int.tmod (bt s m) 128 = bt s m % 128 := Int.tmod_eq_emod_of_nonneg hb.1
    have step : rv s m (n + 1 - m) = bt s m % 128 + 128 * rv s (m + 1) (n + 1 - (m + 1)) := by
      rw [show n + 1 - m = (n + 1 - (m + 1)) + 1 by omega]; rfl
    have hlim : 128 * rv s (m + 1) (n + 1 - (m + 1)) + 127 < 18446744073709551616 := by
      have hp : (128 : Int) ^ (n + 1 - (m + 1)) ≤ 128 ^ 9 := by
        have := Nat.pow_le_pow_right (show 0 < 128 by decide) (show n + 1 - (m + 1) ≤ 9 by omega)
        exact_mod_cast this
      by_cases h' : n + 1 - (m + 1) = 9
      · have hm0 : m = 0 := by omega
        have hn9 : n = 9 := by omega
        subst hm0; subst hn9
        have h91 := h9 rfl
        have h99 := bt_range s 9
        have q := rv_range s 8 1
        have e8 : (128 : Int) ^ 8 = 72057594037927936 := by decide
        rw [e8] at q
        have e' : rv s (0 + 1) (9 + 1 - (0 + 1)) = rv s 1 8 + 128 ^ 8 * (bt s 9 % 128) := by
          have a := pv_rv s 9 1
          have b := pv_rv s 8 1
          have c : pv s (1 + 9) = pv s (1 + 8) + (bt s 9 % 128) * 128 ^ 9 := rfl
          have e9 : (128 : Int) ^ 9 = 9223372036854775808 := by decide
          rw [a, b, e9] at c
          show rv s 1 9 = _
          rw [e8]
          simp only [Int.pow_succ, Int.pow_zero] at c
          omega
        rw [e', e8]
        omega
      · have hp8 : (128 : Int) ^ (n + 1 - (m + 1)) ≤ 128 ^ 8 := by
          have := Nat.pow_le_pow_right (show 0 < 128 by decide) (show n + 1 - (m + 1) ≤ 8 by omega)
          exact_mod_cast this
        have e8 : (128 : Int) ^ 8 = 72057594037927936 := by decide
        rw [e8] at hp8
        omega
    have g1 : IntKind.u64.wrap (bt s m % 128) = bt s m % 128 := wu64 _ (by omega) (by omega)
    have g2 : IntKind.u64.wrap (128 * rv s (m + 1) (n + 1 - (m + 1))) = 128 * rv s (m + 1) (n + 1 - (m + 1)) := wu64 _ (by omega) (by omega)
    have g3 : IntKind.u64.wrap (128 * rv s (m + 1) (n + 1 - (m + 1)) + bt s m % 128) = 128 * rv s (m + 1) (n + 1 - (m + 1)) + bt s m % 128 := wu64 _ (by omega) (by omega)
    rw [ht, g1, g2, g3, w64 _ (by omega) (by omega)]
    rw [show 128 * rv s (m + 1) (n + 1 - (m + 1)) + bt s m % 128 = rv s m (n + 1 - m) by omega]
    exact ih (by omega)
theorem ref_spec (s : ByteArray) (n : Nat) (h : Run s n) (hz : s.size ≤ 140737488351232) : weighlockref01_Unchain.f 40 s = some (unch s n) := by
  unfold weighlockref01_Unchain.f unch
  have hle := h.le
  rw [show 40 = (40 - n) + n by omega, ref_to s n hle h.on _]
  obtain ⟨k, hk⟩ : ∃ k, 40 - n = (k + (n + 1) + 1) + 4 := ⟨40 - n - (n + 1) - 5, by omega⟩
  rw [hk]
  have tail : weighlockref01_Unchain.l0 ((k + (n + 1) + 1) + 4) s n = weighlockref01_Unchain.j1 ((k + (n + 1) + 1) + 3) s n := by
    simp only [weighlockref01_Unchain.l0]
    rcases h.out with h' | h' | ⟨hs, hlt⟩
    · by_cases hs : (n : Int) < (s.size : Int)
      · rw [if_pos hs, if_neg (by omega)]
      · rw [if_neg hs]
    · rw [if_neg (by omega)]
    · by_cases h10 : (n : Int) < 10
      · rw [if_pos (by omega), if_pos h10, if_pos (by omega), if_neg (by omega)]
      · rw [if_pos (by omega), if_neg h10]
  rw [tail]
  clear tail
  simp only [weighlockref01_Unchain.j1]
  have bad : weighlockref01_Unchain.j2 ((k + (n + 1) + 1) + 2) s n true = some (0, 0, 4) := by simp [weighlockref01_Unchain.j2]
  by_cases h10 : n = 10
  · rw [if_pos (by omega), if_pos (.inl h10), bad]
  · rw [if_neg (by omega)]
    have good : ¬ (n = 9 ∧ 9 < s.size ∧ 1 < bt s 9) → weighlockref01_Unchain.j2 ((k + (n + 1) + 1) + 2) s n false = some (if n = s.size then (0, 0, 3) else if 0 < n ∧ bt s n = 0 then (0, 0, 4) else (pv s (n + 1), (n : Int) + 1, 0)) := by
      intro hno
      simp only [weighlockref01_Unchain.j2]
      rw [if_neg (by simp)]
      by_cases hs : n = s.size
      · rw [if_pos (by omega), if_pos hs]
      · have hs' : n < s.size := by rcases h.out with h' | h' | h' <;> omega
        rw [if_neg (by omega), if_neg hs]
        have last : weighlockref01_Unchain.j3 ((k + (n + 1) + 1) + 1) s n false = some (pv s (n + 1), (n : Int) + 1, 0) := by
          simp only [weighlockref01_Unchain.j3]
          rw [if_neg (by simp)]
          have := ref_back s n hs' (by omega) (fun e => by subst e; rcases Int.lt_or_le 1 (bt s 9) with q | q; exact absurd ⟨rfl, hs', q⟩ hno; exact q) (n + 1) (by omega) k
          rw [show n + 1 - (n + 1) = 0 by omega] at this
          have e1 : ((n + 1 : Nat) : Int) - 1 = n := by omega
          rw [e1] at this
          have e2 : rv s 0 (n + 1) = pv s (n + 1) := by
            have := pv_rv s (n + 1) 0
            simp [pv] at this
            exact this.symm
          rw [e2] at this
          exact this
        by_cases hn0 : (n : Int) > 0
        · rw [if_pos hn0, if_pos (by omega), if_pos (by omega)]
          by_cases hb0 : bt s n = 0
          · rw [if_pos ⟨by omega, hb0⟩, hb0]
            simp [weighlockref01_Unchain.j3]
          · rw [if_neg (fun e => hb0 e.2), show (bt s n == 0) = false from beq_eq_false_iff_ne.2 hb0]
            exact last
        · rw [if_neg hn0, if_neg (by omega)]
          exact last
    by_cases h9 : n = 9
    · subst h9
      rw [if_pos (by rfl)]
      by_cases hs9 : (s.size : Int) > 9
      · rw [if_pos hs9, if_pos (by omega)]
        by_cases hb1 : bt s 9 > 1
        · rw [if_pos (.inr ⟨rfl, by omega, hb1⟩), decide_eq_true hb1]; exact bad
        · rw [if_neg (by omega), decide_eq_false hb1]; exact good (fun e => hb1 e.2.2)
      · rw [if_neg hs9, if_neg (by omega)]; exact good (fun e => by omega)
    · rw [if_neg (by omega), if_neg (by omega)]; exact good (fun e => h9 e.1)
theorem wf_i64 {x : Int} (h : (Lit.int .i64 x).wf = true) : -9223372036854775808 ≤ x ∧ x ≤ 9223372036854775807 := by
  simp only [Lit.wf, Bool.and_eq_true, decide_eq_true_eq] at h
  have a : IntKind.i64.min = -9223372036854775808 := by decide +kernel
  have b : IntKind.i64.max = 9223372036854775807 := by decide +kernel
  omega
theorem str_append (a b : List Int) : strOfNums (a ++ b) = strOfNums a ++ strOfNums b := by
  apply ByteArray.ext
  rw [ByteArray.data_append]
  simp [strOfNums]
theorem str_toList (s : ByteArray) : s.toList = s.data.toList := by
  exact ByteArray.toList_eq s
theorem bt_str (xs : List Int) (more : ByteArray) (i : Nat) (hi : i < xs.length) (h0 : 0 ≤ xs[i]) (h1 : xs[i] < 256) : bt (strOfNums xs ++ more) i = xs[i] := by
  unfold bt
  have hsz : (strOfNums xs).size = xs.length := strOfNums_size xs
  have hlt : (i : Int).toNat < (strOfNums xs ++ more).size := by rw [ByteArray.size_append, hsz]; omega
  rw [dif_pos hlt]
  have e : (strOfNums xs ++ more)[(i : Int).toNat] = UInt8.ofNat (xs[i]).toNat := by
    rw [ByteArray.getElem_append_left (by rw [hsz]; omega)]
    show (strOfNums xs).data[(i : Int).toNat]'_ = _
    simp [strOfNums]
  rw [e]
  simp
  omega
def lv : List Int → Int
  | [] => 0
  | b :: t => b % 128 + 128 * lv t
theorem rv_lv (s : ByteArray) (xs : List Int) : ∀ m : Nat, (∀ i (h : i < xs.length), bt s ((m + i : Nat) : Int) = xs[i]) → rv s m xs.length = lv xs := by
  induction xs with
  | nil => intro m _; rfl
  | cons x xs ih =>
    intro m h
    have h0 := h 0 (by simp)
    have h1 := ih (m + 1) (fun i hi => by have := h (i + 1) (by simp; omega); rw [show m + 1 + i = m + (i + 1) by omega]; simpa using this)
    simp only [List.length_cons, rv, lv, h1]
    have : bt s (m : Int) = x := by simpa using h0
    rw [this]
structure ChainOf (f : Nat) (v : Int) (xs : List Int) : Prop where
  pos : 1 ≤ xs.length
  le : xs.length ≤ f
  on : ∀ i (h : i < xs.length), i + 1 < xs.length → 128 ≤ xs[i] ∧ xs[i] < 256
  last : ∀ (h : xs.length - 1 < xs.length), 0 ≤ xs[xs.length - 1] ∧ xs[xs.length - 1] < 128
  nz : 0 < v → ∀ (h : xs.length - 1 < xs.length), xs[xs.length - 1] ≠ 0
  top : v < 2 * 128 ^ (f - 1) → xs.length = f → ∀ (h : xs.length - 1 < xs.length), xs[xs.length - 1] ≤ 1
  worth : lv xs = v
theorem chain_of (f : Nat) : ∀ v : Int, 1 ≤ f → 0 ≤ v → v < 128 ^ f → ChainOf f v (chainF f v) := by
  induction f with
  | zero => intro v h; omega
  | succ f ih =>
    intro v _ h0 h1
    by_cases hv : v < 128
    · rw [chainF_last _ _ hv (by omega)]
      refine ⟨by simp, by simp, by simp, by simp; omega, by simp; omega, ?_, ?_⟩
      · intro ht hl h
        simp at hl
        subst hl
        simp at ht ⊢
        omega
      · simp [lv]; omega
    · rw [chainF_more _ _ hv (by omega), Nat.add_sub_cancel]
      have hp := pow_two_le (f + 1) v h1 (by omega)
      have hq : v / 128 < 128 ^ f := hp.2
      have := ih (v / 128) (by omega) (by omega) hq
      refine ⟨by simp, by simp; exact this.le, ?_, ?_, ?_, ?_, ?_⟩
      · intro i h hi
        match i with
        | 0 => simp; omega
        | i + 1 => simpa using this.on i (by simpa using h) (by simpa using hi)
      · have hl := this.pos
        have e : ((v % 128 + 128) :: chainF f (v / 128)).length - 1 = ((chainF f (v / 128)).length - 1) + 1 := by simp; omega
        intro h
        have := this.last (by omega)
        simp only [e, List.getElem_cons_succ]
        exact this
      · intro _
        have e : ((v % 128 + 128) :: chainF f (v / 128)).length - 1 = ((chainF f (v / 128)).length - 1) + 1 := by have := this.pos; simp; omega
        intro h
        simp only [e, List.getElem_cons_succ]
        exact this.nz (by omega) _
      · intro ht hl h
        have e : ((v % 128 + 128) :: chainF f (v / 128)).length - 1 = ((chainF f (v / 128)).length - 1) + 1 := by have := this.pos; simp; omega
        simp only [e, List.getElem_cons_succ]
        refine this.top ?_ (by simpa using hl) _
        have hf2 : 2 ≤ f + 1 := hp.1
        obtain ⟨g, rfl⟩ : ∃ g, f = g + 1 := ⟨f - 1, by omega⟩
        simp only [Nat.add_sub_cancel] at ht ⊢
        rw [Int.pow_succ] at ht
        generalize (128 : Int) ^ g = p at *
        omega
      · simp only [lv, this.worth]
        omega
theorem small_wrap (x : Int) (h0 : 0 ≤ x) (h1 : x < 256) : (IntKind.u64.wrap x) % 256 = x := by rw [wu64 _ h0 (by omega)]; omega
theorem ref_chain (f : Nat) : ∀ v : Int, 1 ≤ f → f ≤ 10 → 0 ≤ v → v < 18446744073709551616 → v < 128 ^ f → weighlockref01_Chain.f f v = some (strOfNums (chainF f v)) := by
  induction f with
  | zero => intro v h; omega
  | succ f ih =>
    intro v _ hf h0 hu h1
    simp only [weighlockref01_Chain.f]
    by_cases hv : v < 128
    · rw [if_pos hv, chainF_last _ _ hv (by omega), show v % 256 = v by omega]
    · rw [if_neg hv, chainF_more _ _ hv (by omega), Nat.add_sub_cancel]
      have hp := pow_two_le (f + 1) v h1 (by omega)
      have hq : v / 128 < 128 ^ f := hp.2
      have ht : Int.tmod v 128 = v % 128 := Int.tmod_eq_emod_of_nonneg h0
      have hd : Int.tdiv v 128 = v / 128 := Int.tdiv_eq_ediv_of_nonneg h0
      have g1 : (IntKind.u64.wrap (128 + v % 128)) % 256 = v % 128 + 128 := by rw [small_wrap _ (by omega) (by omega)]; omega
      have g2 : IntKind.u64.wrap (v / 128) = v / 128 := wu64 _ (by omega) (by omega)
      have hc := chain_of f (v / 128) (by omega) (by omega) hq
      rw [ht, hd, g1, g2, ih (v / 128) (by omega) (by omega) (by omega) (by omega) hq]
      simp only [Option.bind_some]
      rw [if_pos (by rw [strOfNums_size, strOfNums_size]; have := hc.le; simp; omega), ← str_append]
      rfl
theorem run_chain (v : Int) (h0 : 0 ≤ v) (h1 : v < 18446744073709551616) (more : ByteArray) :
    Run (strOfNums (chainF 10 v) ++ more) ((chainF 10 v).length - 1) ∧ unch (strOfNums (chainF 10 v) ++ more) ((chainF 10 v).length - 1) = (v, ((chainF 10 v).length : Int), 0) := by
  have hp : v < 128 ^ 10 := by have : (128 : Int) ^ 10 = 1180591620717411303424 := by decide +kernel
                               rw [this]; omega
  have hc := chain_of 10 v (by omega) h0 hp
  have ht9 : v < 2 * 128 ^ (10 - 1) := by have : (128 : Int) ^ (10 - 1) = 9223372036854775808 := by decide +kernel
                                          rw [this]; omega
  have hl1 : (chainF 10 v).length ≠ 1 → 0 < v := by
    intro h
    rcases Int.lt_or_le 0 v with q | q
    · exact q
    · exact absurd (by rw [chainF_last 10 v (by omega) (by omega)]; rfl) h
  generalize hx : chainF 10 v = xs at *
  have hpos := hc.pos
  have hle := hc.le
  have hlast := hc.last (by omega)
  have hsz : (strOfNums xs ++ more).size = xs.length + more.size := by rw [ByteArray.size_append, strOfNums_size]
  have hbt : ∀ i (h : i < xs.length), bt (strOfNums xs ++ more) i = xs[i] := by
    intro i h
    by_cases hi : i + 1 < xs.length
    · have := hc.on i h hi
      exact bt_str xs more i h (by omega) (by omega)
    · have e : i = xs.length - 1 := by omega
      subst e
      exact bt_str xs more _ h (by omega) (by omega)
  have hbl := hbt (xs.length - 1) (by omega)
  refine ⟨⟨by omega, ?_, .inr (.inr ⟨by omega, by rw [hbl]; omega⟩)⟩, ?_⟩
  · intro i hi
    refine ⟨by omega, ?_⟩
    rw [hbt i (by omega)]
    exact (hc.on i (by omega) (by omega)).1
  · unfold unch
    rw [if_neg, if_neg (by omega), if_neg]
    · have hval : pv (strOfNums xs ++ more) xs.length = v := by
        have a := pv_rv (strOfNums xs ++ more) xs.length 0
        have b := rv_lv (strOfNums xs ++ more) xs 0 (fun i h => by rw [Nat.zero_add]; exact hbt i h)
        rw [Nat.zero_add, b, hc.worth] at a
        simpa [pv] using a
      rw [show xs.length - 1 + 1 = xs.length by omega, hval]
      congr 2
      omega
    · rintro ⟨a, b⟩
      rw [hbl] at b
      exact hc.nz (hl1 (by omega)) (by omega) b
    · rintro (h | ⟨h9, hs, hb⟩)
      · omega
      · have h10 : xs.length = 10 := by omega
        have q : xs[9] ≤ 1 := by
          have q := hc.top ht9 h10 (by omega)
          simpa [h9] using q
        have h99 := hbt 9 (by omega)
        have c9 : ((9 : Nat) : Int) = 9 := rfl
        rw [c9] at h99
        omega
def bl (s : ByteArray) : Nat → Nat → List Int
  | _, 0 => []
  | m, j + 1 => bt s m :: bl s (m + 1) j
theorem bl_str (s : ByteArray) (j : Nat) : ∀ m : Nat, m + j ≤ s.size → (strOfNums (bl s m j)).data.toList = (s.data.toList.drop m).take j := by
  induction j with
  | zero => intro m _; simp [bl, strOfNums]
  | succ j ih =>
    intro m h
    have hm : m < s.size := by omega
    have hl : m < s.data.toList.length := by rw [data_length]; exact hm
    rw [List.drop_eq_getElem_cons hl, List.take_succ_cons, ← ih (m + 1) (by omega)]
    simp only [bl, strOfNums, List.map_cons]
    congr 1
    unfold bt
    rw [dif_pos (by simpa using hm)]
    simp
    rfl
theorem bl_extract (s : ByteArray) (j : Nat) (h : j ≤ s.size) : (strOfNums (bl s 0 j)).toList = (s.extract 0 j).toList := by
  rw [str_toList, str_toList, bl_str s j 0 (by omega)]
  simp [ByteArray.data_extract, Array.toList_extract]
theorem chain_back (s : ByteArray) (j : Nat) : ∀ (m f : Nat), j + 1 ≤ f → (∀ i : Nat, i < j → 128 ≤ bt s ((m + i : Nat) : Int)) → bt s ((m + j : Nat) : Int) < 128 → (0 < j → bt s ((m + j : Nat) : Int) ≠ 0) →
    chainF f (rv s m (j + 1)) = bl s m (j + 1) ∧ (bt s ((m + j : Nat) : Int) ≠ 0 → 1 ≤ rv s m (j + 1)) := by
  induction j with
  | zero =>
    intro m f hf _ hlt _
    have hb := bt_range s m
    simp only [Nat.add_zero] at hlt ⊢
    simp only [rv, bl]
    rw [chainF_last f _ (by omega) (by omega)]
    refine ⟨by congr 1; omega, fun h => by omega⟩
  | succ j ih =>
    intro m f hf hon hlt hnz
    have hb := bt_range s m
    have h0 := hon 0 (by omega)
    rw [Nat.add_zero] at h0
    have e : m + 1 + j = m + (j + 1) := by omega
    obtain ⟨h1, h2⟩ := ih (m + 1) (f - 1) (by omega) (fun i hi => by have := hon (i + 1) (by omega); rwa [show m + 1 + i = m + (i + 1) by omega]) (by rw [e]; exact hlt) (fun _ => by rw [e]; exact hnz (by omega))
    rw [e] at h2
    have h3 := h2 (hnz (by omega))
    have er : rv s m (j + 1 + 1) = bt s m % 128 + 128 * rv s (m + 1) (j + 1) := rfl
    have eb : bl s m (j + 1 + 1) = bt s m :: bl s (m + 1) (j + 1) := rfl
    rw [er, eb, chainF_more f _ (by omega) (by omega), ← h1]
    refine ⟨?_, fun _ => by omega⟩
    congr 1
    · omega
    · congr 1; omega
theorem pv_top (s : ByteArray) (n : Nat) (hn : n ≤ 9) (h9 : n = 9 → bt s 9 ≤ 1) : pv s (n + 1) < 18446744073709551616 := by
  have e9 : (128 : Int) ^ 9 = 9223372036854775808 := by decide +kernel
  by_cases h : n = 9
  · subst h
    have h1 := h9 rfl
    have h2 := pv_range s 9
    have h3 := bt_range s 9
    have e : pv s (9 + 1) = pv s 9 + (bt s 9 % 128) * 128 ^ 9 := rfl
    rw [e, e9]
    rw [e9] at h2
    omega
  · have h2 := (pv_range s (n + 1)).2
    have hp : (128 : Int) ^ (n + 1) ≤ 128 ^ 9 := by
      have := Nat.pow_le_pow_right (show 0 < 128 by decide) (show n + 1 ≤ 9 by omega)
      exact_mod_cast this
    omega
theorem unch_chain (s : ByteArray) (n : Nat) (h : Run s n) (e : (unch s n).2.2 = 0) :
    unch s n = (pv s (n + 1), (n : Int) + 1, 0) ∧ n < s.size ∧ ∃ t, nums_Chain.f (pv s (n + 1)) = some t ∧ t.toList = (s.extract 0 (n + 1)).toList := by
  have hle := h.le
  unfold unch at e ⊢
  by_cases h1 : n = 10 ∨ (n = 9 ∧ 9 < s.size ∧ 1 < bt s 9)
  · rw [if_pos h1] at e; exact absurd e (by decide)
  rw [if_neg h1] at e ⊢
  by_cases h2 : n = s.size
  · rw [if_pos h2] at e; exact absurd e (by decide)
  rw [if_neg h2] at e ⊢
  by_cases h3 : 0 < n ∧ bt s n = 0
  · rw [if_pos h3] at e; exact absurd e (by decide)
  rw [if_neg h3]
  have hout : n < s.size ∧ bt s n < 128 := by
    rcases h.out with q | q | q
    · omega
    · omega
    · exact q
  have hrv : pv s (n + 1) = rv s 0 (n + 1) := by have := pv_rv s (n + 1) 0; simp [pv] at this; simp [pv]; exact this
  have hb := (chain_back s n 0 10 (by omega) (fun i hi => by rw [Nat.zero_add]; exact (h.on i hi).2) (by rw [Nat.zero_add]; exact hout.2) (fun q => by rw [Nat.zero_add]; exact fun z => h3 ⟨q, z⟩)).1
  have h99 : n = 9 → bt s 9 ≤ 1 := by
    intro q
    subst q
    by_cases z : 1 < bt s 9
    · exact absurd (.inr ⟨rfl, hout.1, z⟩) h1
    · omega
  refine ⟨rfl, hout.1, strOfNums (bl s 0 (n + 1)), ?_, bl_extract s (n + 1) (by omega)⟩
  unfold nums_Chain.f
  rw [if_pos ⟨(pv_range s (n + 1)).1, pv_top s n (by omega) h99⟩, hrv, hb]
theorem chain_f (v : Int) (h0 : 0 ≤ v) (h1 : v < 18446744073709551616) : nums_Chain.f v = some (strOfNums (chainF 10 v)) := by
  unfold nums_Chain.f; rw [if_pos ⟨h0, h1⟩]
theorem p10 (v : Int) (h1 : v < 18446744073709551616) : v < 128 ^ 10 := by
  have : (128 : Int) ^ 10 = 1180591620717411303424 := by decide +kernel
  rw [this]; omega
def untx (x : ByteArray) (u : Int × Int × Int) : ByteArray × Int × Int :=
  if u.2.2 = 0 then (if u.1 > 1099511627776 then (⟨#[]⟩, 0, 2) else if (x.size : Int) - u.2.1 < u.1 then (⟨#[]⟩, 0, 3) else (x.extract u.2.1.toNat (u.2.1 + u.1).toNat, u.2.1 + u.1, 0)) else (⟨#[]⟩, 0, u.2.2)
theorem unch_range (x : ByteArray) (n : Nat) (h : Run x n) : 0 ≤ (unch x n).1 ∧ (unch x n).1 < 18446744073709551616 ∧ 0 ≤ (unch x n).2.1 ∧ (unch x n).2.1 ≤ x.size := by
  by_cases e : (unch x n).2.2 = 0
  · obtain ⟨hu, hn, t, ht, _⟩ := unch_chain x n h e
    rw [hu]
    unfold nums_Chain.f at ht
    by_cases hb : 0 ≤ pv x (n + 1) ∧ pv x (n + 1) < u64top
    · exact ⟨hb.1, hb.2, by simp only; omega, by simp only; omega⟩
    · rw [if_neg hb] at ht; exact absurd ht (by simp)
  · revert e
    unfold unch
    split
    · intro _; simp
    · split
      · intro _; simp
      · split
        · intro _; simp
        · intro e; exact absurd rfl e
theorem untext_eq (x : ByteArray) (n : Nat) (h : Run x n) (hx : x.size ≤ 140737488351232) (k : Nat) (hk : 50 ≤ k) : nums_Untext.f k x = some (untx x (unch x n)) := by
  unfold nums_Untext.f untx
  rw [at_rounds (nums_Unchain.mono _) (show 30 ≤ k by omega) (nums_spec _ _ h)]
  simp only [Option.bind_some]
  obtain ⟨a, b, c, d⟩ := unch_range x n h
  generalize unch x n = u at *
  by_cases e : u.2.2 = 0
  · rw [if_pos e, if_pos e]
    by_cases g : u.1 > 1099511627776
    · rw [if_pos g, if_pos g]
    · rw [if_neg g, if_neg g, w64 ((x.size : Int) - u.2.1) (by omega) (by omega), wu64 _ (by omega) (by omega)]
      by_cases l : (x.size : Int) - u.2.1 < u.1
      · rw [if_pos l, if_pos l]
      · rw [if_neg l, if_neg l, w64 u.1 (by omega) (by omega), w64 (u.2.1 + u.1) (by omega) (by omega), if_pos c, if_pos (by omega), if_pos (by omega)]
  · rw [if_neg e, if_neg e]
theorem ref_untext (x : ByteArray) (n : Nat) (h : Run x n) (hx : x.size ≤ 140737488351232) (k : Nat) (hk : 50 ≤ k) : weighlockref01_Untext.f k x = some (untx x (unch x n)) := by
  unfold weighlockref01_Untext.f untx
  rw [at_rounds (weighlockref01_Unchain.mono _) (show 40 ≤ k by omega) (ref_spec _ _ h hx)]
  simp only [Option.bind_some]
  obtain ⟨a, b, c, d⟩ := unch_range x n h
  generalize unch x n = u at *
  by_cases e : u.2.2 = 0
  · rw [if_pos e, if_pos e]
    by_cases g : u.1 > 1099511627776
    · rw [if_pos g, if_pos g]
    · rw [if_neg g, if_neg g, w64 ((x.size : Int) - u.2.1) (by omega) (by omega), w64 u.1 (by omega) (by omega)]
      by_cases l : (x.size : Int) - u.2.1 < u.1
      · rw [if_pos l, if_pos (by omega)]
      · rw [if_neg (show ¬ u.1 > (x.size : Int) - u.2.1 by omega), if_neg l, w64 (u.2.1 + u.1) (by omega) (by omega), if_pos c, if_pos (by omega), if_pos (by omega)]
  · rw [if_neg e, if_neg e]
theorem chain_size (v : Int) (h0 : 0 ≤ v) (h1 : v < 18446744073709551616) : (strOfNums (chainF 10 v)).size ≤ 10 := by
  rw [strOfNums_size]; exact (chain_of 10 v (by omega) h0 (p10 v h1)).le
theorem text_eq (s : ByteArray) (hs : s.size ≤ 140737488351232) : nums_Text.f s = some (strOfNums (chainF 10 s.size) ++ s) := by
  unfold nums_Text.f
  have := chain_size s.size (by omega) (by omega)
  rw [wu64 _ (by omega) (by omega), chain_f _ (by omega) (by omega)]
  simp only [Option.bind_some]
  rw [if_pos (by omega)]
theorem ref_text (s : ByteArray) (hs : s.size ≤ 140737488351232) (k : Nat) (hk : 50 ≤ k) : weighlockref01_Text.f k s = some (strOfNums (chainF 10 s.size) ++ s) := by
  unfold weighlockref01_Text.f
  have := chain_size s.size (by omega) (by omega)
  rw [wu64 _ (by omega) (by omega), at_rounds (weighlockref01_Chain.mono _) (show 10 ≤ k by omega) (ref_chain 10 s.size (by omega) (by omega) (by omega) (by omega) (p10 _ (by omega)))]
  simp only [Option.bind_some]
  rw [if_pos (by omega)]
theorem extract_mid (a b c : ByteArray) : ((a ++ b ++ c).extract a.size (a.size + b.size)).toList = b.toList := by
  rw [str_toList, str_toList]
  have h1 : a.size = a.data.toList.length := (data_length a).symm
  have h2 : b.size = b.data.toList.length := (data_length b).symm
  rw [ByteArray.data_extract, Array.toList_extract, ByteArray.data_append, ByteArray.data_append, h1, h2]
  simp
theorem nil_size (s : ByteArray) : s.toList = ([] : List UInt8) ↔ s.size = 0 := by
  rw [str_toList, ← data_length]
  exact List.length_eq_zero_iff.symm
theorem str_nil_append (s : ByteArray) : s ++ (⟨#[]⟩ : ByteArray) = s := by
  apply ByteArray.ext
  rw [ByteArray.data_append]
  simp
end Go.Proofs.Ytohhlkabejangaa.PureNums
