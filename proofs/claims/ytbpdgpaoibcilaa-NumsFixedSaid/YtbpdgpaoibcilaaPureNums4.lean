import Derived.Test.YtbpdgpaoibcilaaPureNums3
namespace Go.Proofs.Ytbpdgpaoibcilaa.PureNums
open Go.RowKit Go.Proofs.YtbpdgpaoibcilaaW.PrintWords Go.Proofs.YtbpdgpaoibcilaaW.PrintLast Go.Proofs.YtbpdgpaoibcilaaW.PrintMore Go.Proofs.Ytbpdgpaoibcilaa.Hand Go.Proofs.Ytbpdgpaoibcilaa.PNums
set_option linter.unusedVariables false

theorem p256_pos (n : Nat) : (0 : Int) < 256 ^ n := Int.pow_pos (show (0 : Int) < 256 by decide)
theorem p256_mono {a b : Nat} (h : a ≤ b) : (256 : Int) ^ a ≤ 256 ^ b := by
  have h2 := Int.ofNat_le.2 (Nat.pow_le_pow_right (show 0 < 256 by decide) h)
  rw [Int.natCast_pow, Int.natCast_pow] at h2
  exact h2
theorem e256_8 : (256 : Int) ^ 8 = 18446744073709551616 := by decide +kernel
theorem e256_7 : (256 : Int) ^ 7 = 72057594037927936 := by decide +kernel
/-- the number of the first i bytes, great ones first -/
def rdz (s : ByteArray) : Nat → Int
  | 0 => 0
  | i + 1 => 256 * rdz s i + bt s i
theorem rdz_range (s : ByteArray) (i : Nat) : 0 ≤ rdz s i ∧ rdz s i < 256 ^ i := by
  induction i with
  | zero => simp [rdz]
  | succ i ih =>
    have hb := bt_range s i
    simp only [rdz, Int.pow_succ]
    omega
theorem or_byte (x b : Int) (h0 : 0 ≤ x) (h1 : x < 72057594037927936) (b0 : 0 ≤ b) (b1 : b ≤ 255) : bits .or .u64 (IntKind.u64.wrap (x * 256)) (IntKind.u64.wrap b) = 256 * x + b := by
  rw [wu64 _ (by omega) (by omega), wu64 _ b0 (by omega)]
  have hp : (2 : Int) ^ 64 = 18446744073709551616 := by decide +kernel
  have h8 : (2 : Int) ^ 8 = 256 := by decide +kernel
  rw [bits_join .u64 64 (by decide) wraps_u64 8 (x * 256) b (by omega) (by rw [h8]; exact Int.mul_emod_left _ _) (by rw [hp]; omega) b0 (by rw [h8]; omega) (by rw [hp]; omega)]
  omega
theorem read_loop (s : ByteArray) (hs : s.size ≤ 8) (d : Nat) : ∀ (k i : Nat), i + d = s.size → d < k → nums_Read.l0 k s (rdz s i) s.size i = some (rdz s s.size, 0) := by
  induction d with
  | zero =>
    intro k i hi hk
    obtain ⟨k, rfl⟩ : ∃ m, k = m + 1 := ⟨k - 1, by omega⟩
    simp only [nums_Read.l0]
    obtain rfl : i = s.size := by omega
    rw [if_neg (by omega)]
  | succ d ih =>
    intro k i hi hk
    obtain ⟨k, rfl⟩ : ∃ m, k = m + 1 := ⟨k - 1, by omega⟩
    have hb := bt_range s i
    have hr := rdz_range s i
    have hm := p256_mono (show i ≤ 7 by omega)
    rw [e256_7] at hm
    simp only [nums_Read.l0]
    rw [if_pos (by omega), if_pos (by omega), if_pos (by omega), or_byte _ _ hr.1 (by omega) hb.1 hb.2, w64 _ (by omega) (by omega)]
    exact ih k (i + 1) (by omega) (by omega)
theorem ref_read_loop (s : ByteArray) (hs : s.size ≤ 8) (d : Nat) : ∀ (k i : Nat), i + d = s.size → d < k → weighlockref01_Read.l0 k s (rdz s i) s.size i = some (rdz s s.size) := by
  induction d with
  | zero =>
    intro k i hi hk
    obtain ⟨k, rfl⟩ : ∃ m, k = m + 1 := ⟨k - 1, by omega⟩
    simp only [weighlockref01_Read.l0]
    obtain rfl : i = s.size := by omega
    rw [if_neg (by omega)]
  | succ d ih =>
    intro k i hi hk
    obtain ⟨k, rfl⟩ : ∃ m, k = m + 1 := ⟨k - 1, by omega⟩
    have hb := bt_range s i
    have hr := rdz_range s i
    have hm := p256_mono (show i ≤ 7 by omega)
    rw [e256_7] at hm
    simp only [weighlockref01_Read.l0]
    have g1 : IntKind.u64.wrap (256 * rdz s i) = 256 * rdz s i := wu64 _ (by omega) (by omega)
    have g2 : IntKind.u64.wrap (bt s i) = bt s i := wu64 _ (by omega) (by omega)
    have g3 : IntKind.u64.wrap (256 * rdz s i + bt s i) = 256 * rdz s i + bt s i := wu64 _ (by omega) (by omega)
    rw [if_pos (by omega), if_pos (by omega), if_pos (by omega), g1, g2, g3, w64 _ (by omega) (by omega)]
    exact ih k (i + 1) (by omega) (by omega)
theorem nil_size (s : ByteArray) : s.toList = ([] : List UInt8) ↔ s.size = 0 := by
  rw [str_toList, ← data_length]
  exact List.length_eq_zero_iff.symm
theorem read_eq (s : ByteArray) (k0 : Nat) (hk0 : 20 ≤ k0) : nums_Read.f k0 s = some (if s.size = 0 ∨ 8 < s.size then (0, 1) else (rdz s s.size, 0)) := by
  obtain ⟨k, rfl⟩ : ∃ k, k0 = k + 1 := ⟨k0 - 1, by omega⟩
  unfold nums_Read.f
  by_cases h : s.toList = ([] : List UInt8)
  · rw [if_pos h, if_pos (.inl ((nil_size s).1 h))]
    simp only [nums_Read.j0]
    rw [if_pos trivial]
  · rw [if_neg h]
    have hz : s.size ≠ 0 := fun e => h ((nil_size s).2 e)
    simp only [nums_Read.j0]
    by_cases h8 : (s.size : Int) > 8
    · rw [decide_eq_true h8, if_pos rfl, if_pos (.inr (by omega))]
    · rw [decide_eq_false h8, if_neg (by simp), if_neg (by omega)]
      exact read_loop s (by omega) s.size k 0 (by omega) (by omega)
theorem ref_read (s : ByteArray) (hs : s.size ≤ 8) (k : Nat) (hk : 20 ≤ k) : weighlockref01_Read.f k s = some (rdz s s.size) := by
  unfold weighlockref01_Read.f
  exact ref_read_loop s hs s.size k 0 (by omega) (by omega)

theorem div_succ (v : Int) (i : Nat) : v / 256 ^ i / 256 = v / 256 ^ (i + 1) := by
  rw [Int.pow_succ, Int.ediv_ediv_of_nonneg (Int.le_of_lt (p256_pos i))]
theorem div_range (v : Int) (i : Nat) (h0 : 0 ≤ v) : 0 ≤ v / 256 ^ i ∧ v / 256 ^ i ≤ v := ⟨Int.ediv_nonneg h0 (Int.le_of_lt (p256_pos i)), Int.ediv_le_self _ h0⟩
theorem fits_loop (v : Int) (n : Nat) (h0 : 0 ≤ v) (h1 : v < 18446744073709551616) (d : Nat) : ∀ (k i : Nat), i + d = n → n ≤ 8 → d < k → weighlockref01_Fits.l0 k (v / 256 ^ i) n i = some (v / 256 ^ n == 0) := by
  induction d with
  | zero =>
    intro k i hi hn hk
    obtain ⟨k, rfl⟩ : ∃ m, k = m + 1 := ⟨k - 1, by omega⟩
    simp only [weighlockref01_Fits.l0]
    obtain rfl : i = n := by omega
    rw [if_neg (by omega)]
  | succ d ih =>
    intro k i hi hn hk
    obtain ⟨k, rfl⟩ : ∃ m, k = m + 1 := ⟨k - 1, by omega⟩
    have hr := div_range v i h0
    have hr2 := div_range v (i + 1) h0
    have ht : Int.tdiv (v / 256 ^ i) 256 = v / 256 ^ (i + 1) := by rw [Int.tdiv_eq_ediv_of_nonneg hr.1, div_succ]
    simp only [weighlockref01_Fits.l0]
    rw [if_pos (by omega), ht, wu64 _ hr2.1 (by omega), w64 _ (by omega) (by omega)]
    exact ih k (i + 1) (by omega) hn (by omega)
theorem div_zero_iff (v : Int) (n : Nat) (h0 : 0 ≤ v) : v / 256 ^ n = 0 ↔ v < 256 ^ n := by
  have hp := p256_pos n
  constructor
  · intro e
    have := Int.lt_ediv_add_one_mul_self v hp
    rw [e] at this
    omega
  · exact Int.ediv_eq_zero_of_lt h0
theorem ref_fits (v n : Int) (h0 : 0 ≤ v) (h1 : v < 18446744073709551616) (k0 : Nat) (hk0 : 20 ≤ k0) : weighlockref01_Fits.f k0 v n = some (fitsB v n) := by
  obtain ⟨k, rfl⟩ : ∃ k, k0 = k + 1 := ⟨k0 - 1, by omega⟩
  unfold weighlockref01_Fits.f
  by_cases a : n < 1
  · rw [if_pos a]
    simp only [weighlockref01_Fits.j0]
    rw [if_pos trivial]
    congr 1
    exact (decide_eq_false (fun e => by omega)).symm
  · rw [if_neg a]
    simp only [weighlockref01_Fits.j0]
    by_cases b : n > 8
    · rw [decide_eq_true b, if_pos rfl]
      congr 1
      exact (decide_eq_false (fun e => by omega)).symm
    · rw [decide_eq_false b, if_neg (by simp)]
      obtain ⟨m, rfl⟩ := Int.eq_ofNat_of_zero_le (show 0 ≤ n by omega)
      have := fits_loop v m h0 h1 m k 0 (by omega) (by omega) (by omega)
      rw [Int.pow_zero, Int.ediv_one] at this
      rw [show ((0 : Nat) : Int) = 0 from rfl] at this
      rw [this]
      congr 1
      unfold fitsB
      rw [Int.toNat_natCast, Bool.eq_iff_iff, beq_iff_eq, decide_eq_true_eq, div_zero_iff v m h0]
      constructor
      · intro h; exact ⟨by omega, by omega, h⟩
      · intro h; exact h.2.2
theorem fixedL_cons (v : Int) (i : Nat) : fixedL (i + 1) v (i + 1) = (v / 256 ^ i % 256) :: fixedL i v i := by
  unfold fixedL
  rw [List.range_succ_eq_map, List.map_cons, List.map_map]
  congr 1
  apply List.map_congr_left
  intro j hj
  simp only [Function.comp]
  rw [show i + 1 - 1 - (j + 1) = i - 1 - j by omega]
theorem fixed_loop (v : Int) (n : Nat) (h0 : 0 ≤ v) (h1 : v < 18446744073709551616) (d : Nat) : ∀ (k i : Nat), i + d = n → n ≤ 8 → d < k →
    weighlockref01_Fixed.l0 k (v / 256 ^ i) (strOfNums (fixedL i v i)) n i = some (strOfNums (fixedL n v n)) := by
  induction d with
  | zero =>
    intro k i hi hn hk
    obtain ⟨k, rfl⟩ : ∃ m, k = m + 1 := ⟨k - 1, by omega⟩
    simp only [weighlockref01_Fixed.l0]
    obtain rfl : i = n := by omega
    rw [if_neg (by omega)]
  | succ d ih =>
    intro k i hi hn hk
    obtain ⟨k, rfl⟩ : ∃ m, k = m + 1 := ⟨k - 1, by omega⟩
    have hr := div_range v i h0
    have hr2 := div_range v (i + 1) h0
    have ht : Int.tdiv (v / 256 ^ i) 256 = v / 256 ^ (i + 1) := by rw [Int.tdiv_eq_ediv_of_nonneg hr.1, div_succ]
    have hm : Int.tmod (v / 256 ^ i) 256 % 256 = v / 256 ^ i % 256 := by rw [Int.tmod_eq_emod_of_nonneg hr.1]; omega
    simp only [weighlockref01_Fixed.l0]
    rw [if_pos (by omega), hm]
    simp only [Option.bind_some]
    rw [if_pos (by rw [strOfNums_size, strOfNums_size, fixedL_length]; simp; omega), ht, wu64 _ hr2.1 (by omega), w64 _ (by omega) (by omega), ← str_append, List.singleton_append, ← fixedL_cons]
    exact ih k (i + 1) (by omega) hn (by omega)
theorem ref_fixed (v : Int) (n : Nat) (hn : n ≤ 8) (h0 : 0 ≤ v) (h1 : v < 18446744073709551616) (k : Nat) (hk : 20 ≤ k) : weighlockref01_Fixed.f k v n = some (strOfNums (fixedL n v n)) := by
  unfold weighlockref01_Fixed.f
  have := fixed_loop v n h0 h1 n k 0 (by omega) hn (by omega)
  rw [Int.pow_zero, Int.ediv_one] at this
  exact this
theorem fixedL_get (n : Nat) (v : Int) (m i : Nat) (h : i < (fixedL n v m).length) : (fixedL n v m)[i] = v / 256 ^ (n - 1 - i) % 256 := by simp [fixedL]
theorem str_nil_append (s : ByteArray) : s ++ (⟨#[]⟩ : ByteArray) = s := by
  apply ByteArray.ext
  rw [ByteArray.data_append]
  simp
theorem read_fixed (v : Int) (n : Nat) (h0 : 0 ≤ v) (hv : v < 256 ^ n) (i : Nat) (hi : i ≤ n) : rdz (strOfNums (fixedL n v n)) i = v / 256 ^ (n - i) := by
  induction i with
  | zero => rw [Nat.sub_zero, (div_zero_iff v n h0).2 hv]; rfl
  | succ i ih =>
    have hl : i < (fixedL n v n).length := by rw [fixedL_length]; omega
    have hb : bt (strOfNums (fixedL n v n)) i = v / 256 ^ (n - 1 - i) % 256 := by
      have hg := fixedL_get n v n i hl
      have := bt_str (fixedL n v n) ⟨#[]⟩ i hl (by rw [hg]; exact Int.emod_nonneg _ (by decide)) (by rw [hg]; exact Int.emod_lt_of_pos _ (by decide))
      rw [hg] at this
      rw [← this]
      congr 1
      exact (str_nil_append _).symm
    simp only [rdz]
    rw [ih (by omega), hb]
    have e : n - i = (n - 1 - i) + 1 := by omega
    have e2 : n - (i + 1) = n - 1 - i := by omega
    rw [e, e2, ← div_succ]
    omega
theorem NumsFixed : weighlocklaw01_NumsFixed.Pure := by
  intro v n s hv hn hs
  obtain ⟨h0, h1⟩ := wf_u64 hv
  obtain ⟨n0, n1⟩ := wf_i64 hn
  refine ⟨62, ?_⟩
  have hsome : ∀ k, 40 ≤ k → weighlocklaw01_some.f k = some true := fun k hk => at_rounds (g := fun k => weighlocklaw01_some.f k) weighlocklaw01_some.mono hk some_ok
  have tail : weighlocklaw01_NumsFixed.j1 61 v n = some true := by
    simp only [weighlocklaw01_NumsFixed.j1]
    have hf : nums_Fixed.f v n = some (if fitsB v n = true then (strOfNums (fixedL n.toNat v n.toNat), 0) else (⟨#[]⟩, 1)) := by
      unfold nums_Fixed.f
      rw [if_pos ⟨⟨h0, h1⟩, n0, n1⟩]
      split <;> rfl
    rw [hf, ref_fits v n h0 h1 60 (by omega)]
    simp only [Option.bind_some]
    by_cases b : fitsB v n = true
    · rw [if_pos b, if_pos b]
      obtain ⟨q1, q2, q3⟩ := of_decide_eq_true b
      obtain ⟨m, rfl⟩ := Int.eq_ofNat_of_zero_le (show 0 ≤ n by omega)
      rw [Int.toNat_natCast] at q3 ⊢
      have hsz : (strOfNums (fixedL m v m)).size = m := by rw [strOfNums_size, fixedL_length]
      rw [read_eq _ 60 (by omega), if_neg (by rw [hsz]; omega), ref_fixed v m (by omega) h0 h1 60 (by omega), hsz, read_fixed v m h0 q3 m (Nat.le_refl _), Nat.sub_self, Int.pow_zero, Int.ediv_one]
      simp only [Option.bind_some, if_true]
      rw [hsome 60 (by omega)]
      rfl
    · rw [if_neg b, if_neg b]
      simp only [if_true]
      rw [if_pos ((nil_size _).2 rfl), hsome 60 (by omega)]
      rfl
  unfold weighlocklaw01_NumsFixed.f
  by_cases hl : (s.size : Int) > 100
  · rw [if_pos hl, hsome 62 (by omega)]; rfl
  · rw [if_neg hl, read_eq s 62 (by omega)]
    simp only [Option.bind_some]
    by_cases he : s.toList = ([] : List UInt8)
    · rw [if_pos he, if_pos (.inl ((nil_size s).1 he))]
      simp only [weighlocklaw01_NumsFixed.j0]
      rw [if_pos trivial, if_pos trivial, if_pos trivial, tail]
    · rw [if_neg he]
      have hz : s.size ≠ 0 := fun e => he ((nil_size s).2 e)
      by_cases h8 : (s.size : Int) > 8
      · rw [decide_eq_true h8, if_pos (.inr (by omega))]
        simp only [weighlocklaw01_NumsFixed.j0]
        rw [if_pos trivial, if_pos trivial, if_pos trivial, tail]
      · rw [decide_eq_false h8, if_neg (by omega)]
        simp only [weighlocklaw01_NumsFixed.j0]
        rw [if_neg (by simp), if_pos trivial, ref_read s (by omega) 61 (by omega)]
        simp only [Option.bind_some]
        rw [if_pos trivial, tail]

/-- what Untext tells, Unchain's answer being known -/
def untx (x : ByteArray) (u : Int × Int × Int) : ByteArray × Int × Int :=
  if u.2.2 = 0 then (if u.1 > 1099511627776 then (⟨#[]⟩, 0, 2) else if (x.size : Int) - u.2.1 < u.1 then (⟨#[]⟩, 0, 3) else (x.extract u.2.1.toNat (u.2.1 + u.1).toNat, u.2.1 + u.1, 0)) else (⟨#[]⟩, 0, u.2.2)
theorem unch_range (x : ByteArray) (n : Nat) (h : Run x n) : 0 ≤ (unch x n).1 ∧ (unch x n).1 < 18446744073709551616 ∧ 0 ≤ (unch x n).2.1 ∧ (unch x n).2.1 ≤ x.size := by
  by_cases e : (unch x n).2.2 = 0
  · obtain ⟨hu, hn, t, ht, _⟩ := unch_chain x n h e
    rw [hu]
    unfold nums_Chain.f at ht
    by_cases hb : 0 ≤ pv x (n + 1) ∧ pv x (n + 1) < u64top
    · exact ⟨hb.1, hb.2, by simp only; omega, by simp only; omega⟩
    · rw [if_neg hb] at ht; exact absurd ht (by simp)
  · revert e
    unfold unch
    split
    · intro _; simp
    · split
      · intro _; simp
      · split
        · intro _; simp
        · intro e; exact absurd rfl e
theorem untext_eq (x : ByteArray) (n : Nat) (h : Run x n) (hx : x.size ≤ 140737488351232) (k : Nat) (hk : 50 ≤ k) : nums_Untext.f k x = some (untx x (unch x n)) := by
  unfold nums_Untext.f untx
  rw [at_rounds (nums_Unchain.mono _) (show 30 ≤ k by omega) (nums_spec _ _ h)]
  simp only [Option.bind_some]
  obtain ⟨a, b, c, d⟩ := unch_range x n h
  generalize unch x n = u at *
  by_cases e : u.2.2 = 0
  · rw [if_pos e, if_pos e]
    by_cases g : u.1 > 1099511627776
    · rw [if_pos g, if_pos g]
    · rw [if_neg g, if_neg g, w64 ((x.size : Int) - u.2.1) (by omega) (by omega), wu64 _ (by omega) (by omega)]
      by_cases l : (x.size : Int) - u.2.1 < u.1
      · rw [if_pos l, if_pos l]
      · rw [if_neg l, if_neg l, w64 u.1 (by omega) (by omega), w64 (u.2.1 + u.1) (by omega) (by omega), if_pos c, if_pos (by omega), if_pos (by omega)]
  · rw [if_neg e, if_neg e]
theorem ref_untext (x : ByteArray) (n : Nat) (h : Run x n) (hx : x.size ≤ 140737488351232) (k : Nat) (hk : 50 ≤ k) : weighlockref01_Untext.f k x = some (untx x (unch x n)) := by
  unfold weighlockref01_Untext.f untx
  rw [at_rounds (weighlockref01_Unchain.mono _) (show 40 ≤ k by omega) (ref_spec _ _ h hx)]
  simp only [Option.bind_some]
  obtain ⟨a, b, c, d⟩ := unch_range x n h
  generalize unch x n = u at *
  by_cases e : u.2.2 = 0
  · rw [if_pos e, if_pos e]
    by_cases g : u.1 > 1099511627776
    · rw [if_pos g, if_pos g]
    · rw [if_neg g, if_neg g, w64 ((x.size : Int) - u.2.1) (by omega) (by omega), w64 u.1 (by omega) (by omega)]
      by_cases l : (x.size : Int) - u.2.1 < u.1
      · rw [if_pos l, if_pos (by omega)]
      · rw [if_neg (show ¬ u.1 > (x.size : Int) - u.2.1 by omega), if_neg l, w64 (u.2.1 + u.1) (by omega) (by omega), if_pos c, if_pos (by omega), if_pos (by omega)]
  · rw [if_neg e, if_neg e]
theorem chain_size (v : Int) (h0 : 0 ≤ v) (h1 : v < 18446744073709551616) : (strOfNums (chainF 10 v)).size ≤ 10 := by
  rw [strOfNums_size]; exact (chain_of 10 v (by omega) h0 (p10 v h1)).le
theorem text_eq (s : ByteArray) (hs : s.size ≤ 140737488351232) : nums_Text.f s = some (strOfNums (chainF 10 s.size) ++ s) := by
  unfold nums_Text.f
  have := chain_size s.size (by omega) (by omega)
  rw [wu64 _ (by omega) (by omega), chain_f _ (by omega) (by omega)]
  simp only [Option.bind_some]
  rw [if_pos (by omega)]
theorem ref_text (s : ByteArray) (hs : s.size ≤ 140737488351232) (k : Nat) (hk : 50 ≤ k) : weighlockref01_Text.f k s = some (strOfNums (chainF 10 s.size) ++ s) := by
  unfold weighlockref01_Text.f
  have := chain_size s.size (by omega) (by omega)
  rw [wu64 _ (by omega) (by omega), at_rounds (weighlockref01_Chain.mono _) (show 10 ≤ k by omega) (ref_chain 10 s.size (by omega) (by omega) (by omega) (by omega) (p10 _ (by omega)))]
  simp only [Option.bind_some]
  rw [if_pos (by omega)]
theorem extract_mid (a b c : ByteArray) : ((a ++ b ++ c).extract a.size (a.size + b.size)).toList = b.toList := by
  rw [str_toList, str_toList]
  have h1 : a.size = a.data.toList.length := (data_length a).symm
  have h2 : b.size = b.data.toList.length := (data_length b).symm
  rw [ByteArray.data_extract, Array.toList_extract, ByteArray.data_append, ByteArray.data_append, h1, h2]
  simp
theorem NumsTexts : weighlocklaw01_NumsTexts.Pure := by
  intro s t hs ht
  refine ⟨72, ?_⟩
  have hsome : ∀ k, 40 ≤ k → weighlocklaw01_some.f k = some true := fun k hk => at_rounds (g := fun k => weighlocklaw01_some.f k) weighlocklaw01_some.mono hk some_ok
  have main : (s.size : Int) ≤ 300 → (t.size : Int) ≤ 300 → weighlocklaw01_NumsTexts.j0 72 s t false = some true := by
    intro ls lt
    obtain ⟨n, hr⟩ := run_is t
    simp only [weighlocklaw01_NumsTexts.j0]
    rw [if_neg (by simp), untext_eq t n hr ht 71 (by omega), ref_untext t n hr ht 71 (by omega)]
    simp only [Option.bind_some, if_true, bne_self_eq_false]
    simp only [weighlocklaw01_NumsTexts.j1]
    rw [if_neg (by simp), text_eq s hs, ref_text s hs 70 (by omega)]
    simp only [Option.bind_some]
    have hc := chain_size s.size (by omega) (by omega)
    obtain ⟨hr2, hu⟩ := run_chain s.size (by omega) (by omega) (s ++ t)
    rw [← ByteArray.append_assoc] at hr2 hu
    have hlen : ((chainF 10 (s.size : Int)).length : Int) = (strOfNums (chainF 10 s.size)).size := by rw [strOfNums_size]
    rw [if_pos (by rw [ByteArray.size_append]; omega), untext_eq _ _ hr2 (by rw [ByteArray.size_append, ByteArray.size_append]; omega) 70 (by omega), hu]
    have e1 : ((strOfNums (chainF 10 (s.size : Int))).size : Int).toNat = (strOfNums (chainF 10 (s.size : Int))).size := by omega
    have e2 : (((strOfNums (chainF 10 (s.size : Int))).size : Int) + (s.size : Int)).toNat = (strOfNums (chainF 10 (s.size : Int))).size + s.size := by omega
    have hux : untx (strOfNums (chainF 10 (s.size : Int)) ++ s ++ t) ((s.size : Int), ((chainF 10 (s.size : Int)).length : Int), 0) = ((strOfNums (chainF 10 (s.size : Int)) ++ s ++ t).extract (strOfNums (chainF 10 (s.size : Int))).size ((strOfNums (chainF 10 (s.size : Int))).size + s.size), ((strOfNums (chainF 10 (s.size : Int))).size : Int) + (s.size : Int), 0) := by
      unfold untx
      simp only [if_true]
      rw [hlen, if_neg (by omega), if_neg (by rw [ByteArray.size_append, ByteArray.size_append]; omega), e1, e2]
    rw [hux]
    simp only [Option.bind_some, if_true]
    rw [if_pos (extract_mid _ _ _), if_pos (by rw [ByteArray.size_append]; omega), hsome 70 (by omega)]
    rfl
  have big : weighlocklaw01_NumsTexts.j0 72 s t true = some true := by
    simp only [weighlocklaw01_NumsTexts.j0]
    rw [if_pos trivial, hsome 71 (by omega)]
    rfl
  unfold weighlocklaw01_NumsTexts.f
  by_cases a : (s.size : Int) > 300
  · rw [if_pos a]; exact big
  · rw [if_neg a]
    by_cases b : (t.size : Int) > 300
    · rw [decide_eq_true b]; exact big
    · rw [decide_eq_false b]; exact main (by omega) (by omega)
end Go.Proofs.Ytbpdgpaoibcilaa.PureNums
