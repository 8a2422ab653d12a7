import Derived.Test.YteopponjfkeagaaLat14
namespace Go.Proofs.Yteopponjfkeagaa.Lat
open Go.RowKit Go.Maps Go.Proofs.YteopponjfkeagaaW.PrintWords Go.Proofs.YteopponjfkeagaaW.PrintLast Go.Proofs.YteopponjfkeagaaW.PrintMore Go.Proofs.Yteopponjfkeagaa.PLattice
set_option linter.unusedVariables false
set_option linter.unusedSimpArgs false

/-! the table turned round -/
def trow (T : Int → Int → Bool) (a n : Nat) : List Bool := (List.range n).map fun b : Nat => T (b : Int) (a : Int)
def tr (f : List (List Bool)) : List (List Bool) := (List.range f.length).map fun a : Nat => trow (TT f) a f.length
theorem tr_length (f : List (List Bool)) : (tr f).length = f.length := by unfold tr; simp
theorem tr_row (f : List (List Bool)) (i : Nat) (hi : i < f.length) : rowOf (tr f) i = trow (TT f) i f.length := by
  unfold rowOf tr
  rw [List.getD_eq_getElem?_getD, List.getElem?_map, List.getElem?_range hi]
  rfl
theorem tr_sq {f : List (List Bool)} (hs : sq f) : sq (tr f) :=
  ⟨by rw [tr_length]; exact hs.1, by rw [tr_length]; exact hs.2.1, fun i hi => by
    rw [tr_length] at hi ⊢
    rw [tr_row f i hi]
    unfold trow
    simp⟩
theorem TT_out {f : List (List Bool)} {a b : Int} (h : ¬ (0 ≤ a ∧ a < f.length ∧ 0 ≤ b ∧ b < f.length)) : TT f a b = false := by
  unfold TT flowsF
  cases ha : inN f.length a
  · rfl
  · cases hb : inN f.length b
    · rfl
    · exact absurd ⟨(inN_iff.1 ha).1, (inN_iff.1 ha).2, inN_iff.1 hb⟩ h
theorem tr_TT {f : List (List Bool)} (hs : sq f) (a b : Int) : TT (tr f) a b = TT f b a := by
  by_cases h : 0 ≤ a ∧ a < f.length ∧ 0 ≤ b ∧ b < f.length
  · obtain ⟨h1, h2, h3, h4⟩ := h
    obtain ⟨i, rfl⟩ := Int.eq_ofNat_of_zero_le h1
    obtain ⟨j, rfl⟩ := Int.eq_ofNat_of_zero_le h3
    have hi : i < f.length := by omega
    have hj : j < f.length := by omega
    rw [← at_TT (tr_sq hs) i j (by rw [tr_length]; exact hi) (by rw [tr_length]; exact hj)]
    have e : rd_L1 (tr f) i = trow (TT f) i f.length := by
      have := tr_row f i hi
      unfold rowOf at this
      unfold rd_L1
      rwa [Int.toNat_natCast]
    rw [e]
    unfold rdOf trow
    rw [Int.toNat_natCast, List.getD_eq_getElem?_getD, List.getElem?_map, List.getElem?_range hj]
    rfl
  · rw [TT_out (f := tr f) (by rw [tr_length]; exact h), TT_out (f := f) (by omega)]
theorem tr_fun {f : List (List Bool)} (hs : sq f) : TT (tr f) = gt f.length (flR f f.length) := by
  funext a b
  exact tr_TT hs a b
section
variable {f : List (List Bool)} (hs : sq f)
include hs
theorem Turned_l (n : Nat) (hn : f.length = n) : ∀ (d : Nat) (a : Nat), a + d = n → 
    (∀ k (acc : List (List Bool)), acc.length ≤ 10 → acc.length = a → d * (n + 2) + 1 ≤ k → weighlockref04_Turned.l0 k f acc n a = some (acc ++ (List.range' a d).map fun i => trow (TT f) i n))
  | 0, a, hd, k, acc, h10, hl, hk => by
    obtain ⟨k, rfl⟩ : ∃ m, k = m + 1 := ⟨k - 1, by omega⟩
    unfold weighlockref04_Turned.l0
    rw [if_neg (by omega)]
    simp
  | d + 1, a, hd, k, acc, h10, hl, hk => by
    have h6 := hs.2.1
    have hk2 : (d + 1) * (n + 2) = d * (n + 2) + (n + 2) := Nat.succ_mul d (n + 2)
    obtain ⟨k, rfl⟩ : ∃ m, k = m + 1 := ⟨k - 1, by omega⟩
    have ih := Turned_l n hn d (a + 1) (by omega)
    have hin : ∀ (e b k : Nat) (row : List Bool), b + e = n → row.length = b → e + 1 + (d * (n + 2) + 1) ≤ k → weighlockref04_Turned.l1 k f acc a row n a n b = some (acc ++ [row ++ (List.range' b e).map fun j : Nat => TT f (j : Int) (a : Int)] ++ (List.range' (a + 1) d).map fun i => trow (TT f) i n) := by
      intro e
      induction e with
      | zero =>
        intro b k row hb hrow hk
        obtain ⟨k, rfl⟩ : ∃ m, k = m + 1 := ⟨k - 1, by omega⟩
        unfold weighlockref04_Turned.l1
        rw [if_neg (by omega), if_pos (by omega), w64s a (by omega), ih k (acc ++ [row]) (by simp; omega) (by simp; omega) (by omega)]
        simp
      | succ e ihe =>
        intro b k row hb hrow hk
        obtain ⟨k, rfl⟩ : ∃ m, k = m + 1 := ⟨k - 1, by omega⟩
        have hbn : b < f.length := by omega
        have han : a < f.length := by omega
        unfold weighlockref04_Turned.l1
        rw [row_len hs b hbn, at_TT hs b a hbn han, w64s b (by omega), if_pos (by omega), if_pos (by omega), if_pos (by omega), if_pos (by omega), if_pos (by omega), if_pos (by omega), ihe (b + 1) k (row ++ [TT f b a]) (by omega) (by simp; omega) (by omega), List.range'_succ]
        simp
    unfold weighlockref04_Turned.l0
    rw [if_pos (by omega), hn]
    have h0 := hin n 0 k [] (by omega) rfl (by omega)
    rw [show ((0 : Nat) : Int) = 0 from rfl] at h0
    rw [h0, List.range'_succ]
    simp [trow, List.range_eq_range']
theorem Turned_f (k : Nat) (hk : 49 ≤ k) : weighlockref04_Turned.f k f = some (tr f) := by
  have h6 := hs.2.1
  have hm : f.length * (f.length + 2) ≤ 6 * 8 := Nat.mul_le_mul h6 (by omega)
  have h := Turned_l hs f.length rfl f.length 0 (by omega) k [] (by simp) rfl (by omega)
  rw [show ((0 : Nat) : Int) = 0 from rfl] at h
  unfold weighlockref04_Turned.f
  rw [h]
  unfold tr
  rw [List.range_eq_range', List.nil_append]
theorem Meet_f (a b : Nat) (ha : a < f.length) (hb : b < f.length) (k : Nat) (hk : 49 ≤ k) : weighlockref04_Meet.f k f a b = some (G f.length (gt f.length (flR f f.length)) a b) := by
  have h6 := hs.2.1
  unfold weighlockref04_Meet.f
  rw [Turned_f hs k hk, Option.bind_some, Join_f (tr_sq hs) a b (by rw [tr_length]; exact ha) (by rw [tr_length]; exact hb) k (by rw [tr_length]; omega), tr_fun hs, tr_length]
  rfl

/-! which tables are an order -/
def okP (T : Int → Int → Bool) (n a b : Nat) : Prop := (a = b → T a a = true) ∧ (a ≠ b → ¬ (T a b = true ∧ T b a = true)) ∧ ∀ c : Nat, c < n → ¬ (T a b = true ∧ T b c = true ∧ T a c = false)
omit hs in
theorem F_TT {a b : Nat} (ha : a < f.length) (hb : b < f.length) : TT f a b = flR f f.length (a * 6 + b) := by
  unfold TT flowsF
  rw [inN_iff.2 ⟨by omega, by omega⟩, inN_iff.2 ⟨by omega, by omega⟩]
  rfl
omit hs in
theorem order_iff : orderP f.length (flR f f.length) ↔ ∀ a b : Nat, a < f.length → b < f.length → okP (TT f) f.length a b := by
  unfold orderP okA okB okC okP
  constructor
  · intro h a b ha hb
    obtain ⟨h1, h2⟩ := h a ha
    obtain ⟨h3, h4⟩ := h2 b hb
    refine ⟨fun e => by rw [F_TT ha ha]; exact h1, fun hne q => h3 ⟨hne, ?_, ?_⟩, fun c hc q => h4 c hc ?_⟩
    · rw [← F_TT ha hb]; exact q.1
    · rw [← F_TT hb ha]; exact q.2
    · rw [← F_TT ha hb, ← F_TT hb hc, ← F_TT ha hc]; exact q
  · intro h a ha
    refine ⟨by rw [← F_TT ha ha]; exact (h a a ha ha).1 rfl, fun b hb => ⟨fun q => (h a b ha hb).2.1 q.1 ?_, fun c hc q => (h a b ha hb).2.2 c hc ?_⟩⟩
    · rw [F_TT ha hb, F_TT hb ha]; exact q.2
    · rw [F_TT ha hb, F_TT hb hc, F_TT ha hc]; exact q
end
end Go.Proofs.Yteopponjfkeagaa.Lat
