import Derived.Test.YteopponjfkeagaaLat12
import Derived.Test.YteopponjfkeagaaPLatticex
namespace Go.Proofs.Yteopponjfkeagaa.Lat
open Go.RowKit Go.Maps Go.Proofs.YteopponjfkeagaaW.PrintWords Go.Proofs.YteopponjfkeagaaW.PrintLast Go.Proofs.YteopponjfkeagaaW.PrintMore Go.Proofs.Yteopponjfkeagaa.PLattice
set_option linter.unusedVariables false
set_option linter.unusedSimpArgs false

/-- what flows by a table -/
abbrev TT (f : List (List Bool)) : Int → Int → Bool := flowsF f.length (flR f f.length)
theorem w64s (i : Nat) (h : i < 1000000) : wrap64 ((i : Int) + 1) = ((i + 1 : Nat) : Int) := by unfold wrap64; omega
theorem w64S (i : Nat) (h : i < 9223372036854775807) : wrap64 ((i : Int) + 1) = ((i + 1 : Nat) : Int) := by unfold wrap64; omega
theorem lti {a b : Nat} (h : a < b) : (a : Int) < (b : Int) := by omega
theorem nni (a : Nat) : (0 : Int) ≤ (a : Int) := by omega
section
variable {f : List (List Bool)} (hs : sq f)
include hs
theorem row_len (i : Nat) (hi : i < f.length) : (rd_L1 f i).length = f.length := by
  have := hs.2.2 i hi
  unfold rowOf at this
  unfold rd_L1
  rwa [Int.toNat_natCast]
theorem at_TT (i j : Nat) (hi : i < f.length) (hj : j < f.length) : rdOf false (rd_L1 f i) j = TT f i j := by
  unfold TT flowsF inN flR rdOf rd_L1
  have h6 := hs.2.1
  have e1 : (i * 6 + j) / 6 = i := by omega
  have e2 : (i * 6 + j) % 6 = j := by omega
  simp only [Int.toNat_natCast, e1, e2, if_pos hi]
  have d1 : decide ((0 : Int) ≤ (i : Int)) = true := decide_eq_true (by omega)
  have d2 : decide ((i : Int) < (f.length : Int)) = true := decide_eq_true (by omega)
  have d3 : decide ((0 : Int) ≤ (j : Int)) = true := decide_eq_true (by omega)
  have d4 : decide ((j : Int) < (f.length : Int)) = true := decide_eq_true (by omega)
  rw [d1, d2, d3, d4]
  rfl

/-- all that two flow to, the one flows to -/
def allG (T : Int → Int → Bool) (a b x : Nat) (s d : Nat) : Bool := (List.range' s d).all fun y => !(T a y && T b y) || T x y
theorem isJoin_l0 (a b x : Nat) (ha : a < f.length) (hb : b < f.length) (hx : x < f.length) : ∀ (d s k : Nat), s + d = f.length → d + 1 ≤ k → weighlockref04_isJoin.l0 k f a b x f.length s = some (allG (TT f) a b x s d)
  | 0, s, k, hd, hk => by
    obtain ⟨k, rfl⟩ : ∃ m, k = m + 1 := ⟨k - 1, by omega⟩
    unfold weighlockref04_isJoin.l0
    rw [if_neg (by omega)]
    rfl
  | d + 1, s, k, hd, hk => by
    obtain ⟨k, rfl⟩ : ∃ m, k = m + 1 := ⟨k - 1, by omega⟩
    have h6 := hs.2.1
    have ih := isJoin_l0 a b x ha hb hx d (s + 1) k (by omega) (by omega)
    have hss : s < f.length := by omega
    unfold weighlockref04_isJoin.l0
    rw [row_len hs a ha, row_len hs b hb, row_len hs x hx, at_TT hs a s ha hss, at_TT hs b s hb hss, at_TT hs x s hx hss, w64s s (by omega), ih]
    simp only [eq_true (lti hss), eq_true (lti ha), eq_true (lti hb), eq_true (lti hx), eq_true (nni a), eq_true (nni b), eq_true (nni x), eq_true (nni s), if_true]
    unfold allG
    rw [List.range'_succ, List.all_cons]
    cases TT f a s <;> cases TT f b s <;> cases TT f x s <;> simp
theorem isJoin_f (a b x : Nat) (ha : a < f.length) (hb : b < f.length) (hx : x < f.length) (k : Nat) (hk : f.length + 2 ≤ k) : weighlockref04_isJoin.f k f a b x = some (TT f a x && TT f b x && allG (TT f) a b x 0 f.length) := by
  obtain ⟨k, rfl⟩ : ∃ m, k = m + 1 := ⟨k - 1, by omega⟩
  have h0 := isJoin_l0 hs a b x ha hb hx f.length 0 k (by omega) (by omega)
  unfold weighlockref04_isJoin.f
  rw [row_len hs a ha, row_len hs b hb, at_TT hs a x ha hx, at_TT hs b x hb hx]
  unfold weighlockref04_isJoin.j0
  rw [show ((0 : Nat) : Int) = 0 from rfl] at h0
  simp only [eq_true (lti ha), eq_true (lti hb), eq_true (lti hx), eq_true (nni a), eq_true (nni b), eq_true (nni x), if_true, h0]
  cases TT f a x <;> cases TT f b x <;> simp
omit hs in
/-- the first label that is the join -/
def jF (n : Nat) (T : Int → Int → Bool) (a b : Nat) (s d : Nat) : Int :=
  (((List.range' s d).find? fun x : Nat => T a x && T b x && allG T a b x 0 n).map fun x : Nat => (x : Int)).getD (-1)
theorem Join_l0 (a b : Nat) (ha : a < f.length) (hb : b < f.length) : ∀ (d s k : Nat), s + d = f.length → d + f.length + 3 ≤ k → weighlockref04_Join.l0 k f a b f.length s = some (jF f.length (TT f) a b s d)
  | 0, s, k, hd, hk => by
    obtain ⟨k, rfl⟩ : ∃ m, k = m + 1 := ⟨k - 1, by omega⟩
    unfold weighlockref04_Join.l0
    rw [if_neg (by omega)]
    rfl
  | d + 1, s, k, hd, hk => by
    obtain ⟨k, rfl⟩ : ∃ m, k = m + 1 := ⟨k - 1, by omega⟩
    have h6 := hs.2.1
    have ih := Join_l0 a b ha hb d (s + 1) k (by omega) (by omega)
    unfold weighlockref04_Join.l0
    rw [if_pos (by omega), isJoin_f hs a b s ha hb (by omega) k (by omega), w64s s (by omega), ih, Option.bind_some]
    unfold jF
    rw [List.range'_succ, List.find?_cons]
    cases hq : (TT f a s && TT f b s && allG (TT f) a b s 0 f.length)
    · rw [if_neg (by decide)]
    · rw [if_pos rfl]
      rfl
omit hs in
theorem jF_G (n : Nat) (T : Int → Int → Bool) (a b : Nat) : jF n T a b 0 n = G n T a b := by
  unfold jF G greatestF pick
  rw [List.find?_map, List.find?_filter, List.range_eq_range']
  congr 2
  refine congrArg (fun p => List.find? p _) (funext fun x => ?_)
  rw [Bool.eq_iff_iff]
  simp [allG, List.all_map, List.all_filter, Function.comp_def]
theorem Join_f (a b : Nat) (ha : a < f.length) (hb : b < f.length) (k : Nat) (hk : 2 * f.length + 3 ≤ k) : weighlockref04_Join.f k f a b = some (G f.length (TT f) a b) := by
  have h := Join_l0 hs a b ha hb f.length 0 k (by omega) (by omega)
  unfold weighlockref04_Join.f
  rw [← jF_G]
  exact h
end
end Go.Proofs.Yteopponjfkeagaa.Lat
