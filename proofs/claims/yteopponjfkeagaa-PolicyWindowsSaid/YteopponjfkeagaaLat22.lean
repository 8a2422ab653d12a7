import Derived.Test.YteopponjfkeagaaLat21
namespace Go.Proofs.Yteopponjfkeagaa.Lat
open Go.RowKit Go.Maps Go.Proofs.YteopponjfkeagaaW.PrintWords Go.Proofs.YteopponjfkeagaaW.PrintLast Go.Proofs.YteopponjfkeagaaW.PrintMore Go.Proofs.Yteopponjfkeagaa.PLattice
set_option linter.unusedVariables false
set_option linter.unusedSimpArgs false

/-- a Bool that tells a proposition -/
def Tells (o : Option Bool) (p : Prop) : Prop := ∃ r : Bool, o = some r ∧ (r = true ↔ p)
theorem Tells.yes {o : Option Bool} {p : Prop} (h : o = some true) (hp : p) : Tells o p := ⟨true, h, fun _ => hp, fun _ => rfl⟩
theorem Tells.no {o : Option Bool} {p : Prop} (h : o = some false) (hp : ¬ p) : Tells o p := ⟨false, h, fun e => absurd e (by decide), fun e => absurd e hp⟩
theorem Tells.iff {o : Option Bool} {p q : Prop} (h : Tells o p) (e : p ↔ q) : Tells o q := by
  obtain ⟨r, h1, h2⟩ := h
  exact ⟨r, h1, h2.trans e⟩
theorem all_from {p : Nat → Prop} {s n : Nat} (hs : s < n) : (∀ i, s ≤ i → i < n → p i) ↔ (p s ∧ ∀ i, s + 1 ≤ i → i < n → p i) :=
  ⟨fun h => ⟨h s (Nat.le_refl _) hs, fun i h1 h2 => h i (by omega) h2⟩, fun h i h1 h2 => by
    rcases Nat.eq_or_lt_of_le h1 with rfl | h3
    · exact h.1
    · exact h.2 i h3 h2⟩
section
variable {f : List (List Bool)} (hs : sq f)
include hs
theorem Order_l2 (n : Nat) (hn : f.length = n) (a b : Nat) (ha : a < f.length) (hb : b < f.length) (q : Prop) (K : Nat) (hnext : ∀ k, K ≤ k → Tells (weighlockref04_Order.l1 k f a n a n ((b + 1 : Nat) : Int)) q) :
    ∀ (d c k : Nat), c + d = n → d + 1 + K ≤ k → Tells (weighlockref04_Order.l2 k f a b n a n b n c) ((∀ i : Nat, c ≤ i → i < n → ¬ (TT f a b = true ∧ TT f b i = true ∧ TT f a i = false)) ∧ q)
  | 0, c, k, hd, hk => by
    obtain ⟨k, rfl⟩ : ∃ m, k = m + 1 := ⟨k - 1, by omega⟩
    have h6 := hs.2.1
    unfold weighlockref04_Order.l2
    rw [if_neg (by omega), w64s b (by omega)]
    exact (hnext k (by omega)).iff ⟨fun h => ⟨fun i h1 h2 => absurd h1 (by omega), h⟩, fun h => h.2⟩
  | d + 1, c, k, hd, hk => by
    obtain ⟨k, rfl⟩ : ∃ m, k = m + 1 := ⟨k - 1, by omega⟩
    have h6 := hs.2.1
    have ih := Order_l2 n hn a b ha hb q K hnext d (c + 1) k (by omega) (by omega)
    have hc : c < f.length := by omega
    unfold weighlockref04_Order.l2
    rw [row_len hs a ha, row_len hs b hb, at_TT hs a b ha hb, at_TT hs b c hb hc, at_TT hs a c ha hc, w64s c (by omega), all_from (by omega)]
    simp only [← hn] at ih ⊢
    simp only [eq_true (lti ha), eq_true (lti hb), eq_true (lti hc), eq_true (nni a), eq_true (nni b), eq_true (nni c), if_true]
    cases h1 : TT f a b
    · simp only [Bool.false_eq_true, if_false]
      rw [h1] at ih
      exact ih.iff (by simp)
    · rw [h1] at ih
      cases h2 : TT f b c
      · simp only [if_true, Bool.false_eq_true, if_false]
        exact ih.iff (by simp)
      · cases h3 : TT f a c
        · simp only [if_true, Bool.false_eq_true, if_false]
          exact Tells.no rfl (by simp)
        · simp only [if_true]
          exact ih.iff (by simp)
theorem Order_l1 (n : Nat) (hn : f.length = n) (a : Nat) (ha : a < f.length) (q : Prop) (K : Nat) (hnext : ∀ k, K ≤ k → Tells (weighlockref04_Order.l0 k f n ((a + 1 : Nat) : Int)) q) :
    ∀ (d b k : Nat), b + d = n → d * (n + 3) + 1 + K ≤ k → Tells (weighlockref04_Order.l1 k f a n a n b) ((∀ i : Nat, b ≤ i → i < n → okP (TT f) n a i) ∧ q)
  | 0, b, k, hd, hk => by
    obtain ⟨k, rfl⟩ : ∃ m, k = m + 1 := ⟨k - 1, by omega⟩
    have h6 := hs.2.1
    unfold weighlockref04_Order.l1
    rw [if_neg (by omega), w64s a (by omega)]
    exact (hnext k (by omega)).iff ⟨fun h => ⟨fun i h1 h2 => absurd h1 (by omega), h⟩, fun h => h.2⟩
  | d + 1, b, k, hd, hk => by
    have hk2 : (d + 1) * (n + 3) = d * (n + 3) + (n + 3) := Nat.succ_mul d (n + 3)
    obtain ⟨k, rfl⟩ : ∃ m, k = m + 2 := ⟨k - 2, by omega⟩
    have h6 := hs.2.1
    have hb : b < f.length := by omega
    have ih := Order_l2 hs n hn a b ha hb _ (d * (n + 3) + 1 + K) (fun k hk => Order_l1 n hn a ha q K hnext d (b + 1) k (by omega) (by omega)) n 0 k (by omega) (by omega)
    rw [show ((0 : Nat) : Int) = 0 from rfl] at ih
    unfold weighlockref04_Order.l1 weighlockref04_Order.j2
    rw [row_len hs a ha, row_len hs b hb, at_TT hs a b ha hb, at_TT hs b a hb ha, all_from (by omega)]
    simp only [← hn] at ih ⊢
    simp only [eq_true (lti ha), eq_true (lti hb), eq_true (nni a), eq_true (nni b), if_true]
    by_cases hab : a = b
    · subst hab
      rw [if_pos rfl]
      cases h1 : TT f a a
      · simp only [Bool.false_eq_true, if_false, if_true]
        exact Tells.no rfl (fun h => by have := h.1.1.1 rfl; rw [h1] at this; exact absurd this (by decide))
      · rw [h1] at ih
        simp only [Bool.false_eq_true, if_false, if_true]
        refine ih.iff ⟨fun h => ⟨⟨⟨fun _ => h1, fun e => absurd rfl e, fun c hc q => h.1 c (Nat.zero_le _) hc ⟨rfl, q.2.1, q.2.2⟩⟩, h.2.1⟩, h.2.2⟩, fun h => ⟨fun c _ hc q => h.1.1.2.2 c hc ⟨h1, q.2.1, q.2.2⟩, h.1.2, h.2⟩⟩
    · rw [if_neg (by omega)]
      cases h1 : TT f a b
      · rw [h1] at ih
        simp only [Bool.false_eq_true, if_false, if_true]
        refine ih.iff ⟨fun h => ⟨⟨⟨fun e => absurd e hab, fun _ q => absurd (h1.symm.trans q.1) (by decide), fun c hc q => absurd (h1.symm.trans q.1) (by decide)⟩, h.2.1⟩, h.2.2⟩, fun h => ⟨fun c _ hc q => absurd q.1 (by decide), h.1.2, h.2⟩⟩
      · rw [h1] at ih
        cases h2 : TT f b a
        · simp only [Bool.false_eq_true, if_false, if_true]
          refine ih.iff ⟨fun h => ⟨⟨⟨fun e => absurd e hab, fun _ q => absurd (h2.symm.trans q.2) (by decide), fun c hc q => h.1 c (Nat.zero_le _) hc ⟨rfl, q.2.1, q.2.2⟩⟩, h.2.1⟩, h.2.2⟩, fun h => ⟨fun c _ hc q => h.1.1.2.2 c hc ⟨h1, q.2.1, q.2.2⟩, h.1.2, h.2⟩⟩
        · simp only [if_true]
          exact Tells.no rfl (fun h => h.1.1.2.1 hab ⟨h1, h2⟩)
theorem Order_l0 (n : Nat) (hn : f.length = n) : ∀ (d a k : Nat), a + d = n → d * (n * (n + 3) + 2) + 1 ≤ k → Tells (weighlockref04_Order.l0 k f n a) (∀ i : Nat, a ≤ i → i < n → ∀ j : Nat, j < n → okP (TT f) n i j)
  | 0, a, k, hd, hk => by
    obtain ⟨k, rfl⟩ : ∃ m, k = m + 1 := ⟨k - 1, by omega⟩
    unfold weighlockref04_Order.l0
    rw [if_neg (by omega)]
    exact Tells.yes rfl (fun i h1 h2 => absurd h1 (by omega))
  | d + 1, a, k, hd, hk => by
    have hk2 : (d + 1) * (n * (n + 3) + 2) = d * (n * (n + 3) + 2) + (n * (n + 3) + 2) := Nat.succ_mul d _
    obtain ⟨k, rfl⟩ : ∃ m, k = m + 1 := ⟨k - 1, by omega⟩
    have h6 := hs.2.1
    have h := Order_l1 hs n hn a (by omega) _ (d * (n * (n + 3) + 2) + 1) (fun k hk => Order_l0 n hn d (a + 1) k (by omega) hk) n 0 k (by omega) (by omega)
    rw [show ((0 : Nat) : Int) = 0 from rfl] at h
    unfold weighlockref04_Order.l0
    rw [if_pos (by omega), hn, all_from (by omega)]
    exact h.iff ⟨fun h => ⟨fun j hj => h.1 j (Nat.zero_le _) hj, h.2⟩, fun h => ⟨fun j _ hj => h.1 j hj, h.2⟩⟩
theorem Order_f (k : Nat) (hk : 400 ≤ k) : Tells (weighlockref04_Order.f k f) (orderP f.length (flR f f.length)) := by
  have h6 := hs.2.1
  have hm1 : f.length * (f.length + 3) ≤ 6 * 9 := Nat.mul_le_mul h6 (by omega)
  have hm : f.length * (f.length * (f.length + 3) + 2) ≤ 6 * 56 := Nat.mul_le_mul h6 (by omega)
  have h := Order_l0 hs f.length rfl f.length 0 k (by omega) (by omega)
  rw [show ((0 : Nat) : Int) = 0 from rfl] at h
  unfold weighlockref04_Order.f
  exact h.iff ⟨fun h => order_iff.2 fun a b ha hb => h a (Nat.zero_le _) ha b hb, fun h a _ ha b hb => order_iff.1 h a b ha hb⟩
end
theorem Square_l0 (f : List (List Bool)) (n : Nat) (hn : f.length = n) (hmax : n < 9223372036854775807) : ∀ (d i k : Nat), i + d = n → d + 1 ≤ k → Tells (weighlockref04_Square.l0 k f f n i) ((∀ j : Nat, i ≤ j → j < n → (rowOf f j).length = n) ∧ 0 < n ∧ n ≤ 6)
  | 0, i, k, hd, hk => by
    obtain ⟨k, rfl⟩ : ∃ m, k = m + 1 := ⟨k - 1, by omega⟩
    unfold weighlockref04_Square.l0
    rw [if_neg (by omega), hn]
    by_cases h0 : (n : Int) > 0
    · rw [if_pos h0]
      exact ⟨_, rfl, by
        rw [decide_eq_true_iff]
        exact ⟨fun h => ⟨fun j h1 h2 => absurd h1 (by omega), by omega, by omega⟩, fun h => by omega⟩⟩
    · rw [if_neg h0]
      exact Tells.no rfl (fun h => by omega)
  | d + 1, i, k, hd, hk => by
    obtain ⟨k, rfl⟩ : ∃ m, k = m + 1 := ⟨k - 1, by omega⟩
    have ih := Square_l0 f n hn hmax d (i + 1) k (by omega) (by omega)
    have e : rd_L1 f i = rowOf f i := by
      unfold rd_L1 rowOf
      rw [Int.toNat_natCast]
    unfold weighlockref04_Square.l0
    rw [if_pos (by omega), if_pos (by omega), if_pos (by omega), w64S i (by omega), hn, all_from (by omega), e]
    by_cases h : (rowOf f i).length = n
    · rw [if_pos (by omega)]
      exact ih.iff ⟨fun q => ⟨⟨h, q.1⟩, q.2⟩, fun q => ⟨q.1.2, q.2⟩⟩
    · rw [if_neg (by omega)]
      exact Tells.no rfl (fun q => h q.1.1)
theorem Square_f (f : List (List Bool)) (hmax : f.length < 9223372036854775807) (k : Nat) (hk : f.length + 1 ≤ k) : Tells (weighlockref04_Square.f k f) (sq f) := by
  have h := Square_l0 f f.length rfl hmax f.length 0 k (by omega) (by omega)
  rw [show ((0 : Nat) : Int) = 0 from rfl] at h
  unfold weighlockref04_Square.f
  exact h.iff ⟨fun h => ⟨h.2.1, h.2.2, fun i hi => h.1 i (Nat.zero_le _) hi⟩, fun h => ⟨fun i _ hi => h.2.2 i hi, h.1, h.2.1⟩⟩
theorem large_l0 (f : List (List Bool)) (n : Nat) (hn : f.length = n) (hmax : n < 9223372036854775807) : ∀ (d i k : Nat), i + d = n → d + 1 ≤ k → ∃ r, weighlocklaw04_large.l0 k f n i = some r
  | 0, i, k, hd, hk => by
    obtain ⟨k, rfl⟩ : ∃ m, k = m + 1 := ⟨k - 1, by omega⟩
    unfold weighlocklaw04_large.l0
    rw [if_neg (by omega)]
    exact ⟨_, rfl⟩
  | d + 1, i, k, hd, hk => by
    obtain ⟨k, rfl⟩ : ∃ m, k = m + 1 := ⟨k - 1, by omega⟩
    obtain ⟨r, ih⟩ := large_l0 f n hn hmax d (i + 1) k (by omega) (by omega)
    unfold weighlocklaw04_large.l0
    rw [if_pos (by omega), if_pos (by omega), if_pos (by omega), w64S i (by omega)]
    split
    · exact ⟨_, rfl⟩
    · exact ⟨r, ih⟩
/-- is it more than is gone through: an answer there is; with no more than 40 rows if it is not -/
theorem large_f (f : List (List Bool)) (hmax : f.length ≤ 9223372036854775807) : ∃ k r, weighlocklaw04_large.f k f = some r ∧ (r = false → f.length ≤ 40) := by
  unfold weighlocklaw04_large.f
  by_cases h : (f.length : Int) > 40
  · exact ⟨0, true, by rw [if_pos h], fun e => absurd e (by decide)⟩
  · obtain ⟨r, hr⟩ := large_l0 f f.length rfl (by omega) f.length 0 (f.length + 1) (by omega) (by omega)
    exact ⟨f.length + 1, r, by rw [if_neg h]; exact hr, fun _ => by omega⟩
end Go.Proofs.Yteopponjfkeagaa.Lat
