import Derived.Test.YtbpdgpaoibcilaaHandLayout2
import Derived.Test.YtbpdgpaoibcilaaPLayoutx
namespace Go.Proofs.Ytbpdgpaoibcilaa.HandLayout
open Go.RowKit Go.Proofs.YtbpdgpaoibcilaaW.PrintWords Go.Proofs.YtbpdgpaoibcilaaW.PrintLast Go.Proofs.YtbpdgpaoibcilaaW.PrintMore Go.Proofs.Ytbpdgpaoibcilaa.PLayout
set_option linter.unusedVariables false

theorem lw64 (x : Int) (h0 : -9223372036854775808 ≤ x) (h1 : x ≤ 9223372036854775807) : wrap64 x = x := by unfold wrap64; omega
open Classical in
/-- is there such a layout? -/
noncomputable def goodB (segs : List Int) : Bool := decide (Good segs)
open Classical in
theorem may_loop (segs : List Int) (hm : segs.length ≤ 9223372036854775807) (d : Nat) : ∀ (k i : Nat), i + d = segs.length → d < k → (∀ j : Nat, j < i → 6 ≤ rd segs j ∧ rd segs j ≤ 64) →
    weighlockref06_May.l0 k segs segs segs.length i = some (goodB segs) := by
  induction d with
  | zero =>
    intro k i hi hk hj
    obtain ⟨k, rfl⟩ : ∃ m, k = m + 1 := ⟨k - 1, by omega⟩
    simp only [weighlockref06_May.l0]
    rw [if_neg (by omega)]
    obtain rfl : i = segs.length := by omega
    unfold goodB
    by_cases a : (segs.length : Int) ≥ 1
    · rw [if_pos a]
      congr 1
      rw [Bool.eq_iff_iff, decide_eq_true_eq, decide_eq_true_eq]
      exact ⟨fun h => ⟨by omega, by omega, hj⟩, fun h => by have := h.2.1; omega⟩
    · rw [if_neg a]
      congr 1
      exact (decide_eq_false (fun h => by have := h.1; omega)).symm
  | succ d ih =>
    intro k i hi hk hj
    obtain ⟨k, rfl⟩ : ∃ m, k = m + 1 := ⟨k - 1, by omega⟩
    simp only [weighlockref06_May.l0]
    rw [if_pos (by omega), if_pos (by omega), if_pos (by omega)]
    have hno : ¬ (6 ≤ rd segs i ∧ rd segs i ≤ 64) → goodB segs = false := fun h => decide_eq_false (fun g => h (g.2.2 i (by omega)))
    by_cases a : rd segs i < 6
    · rw [if_pos a, hno (by omega)]
    · rw [if_neg a]
      by_cases b : rd segs i > 64
      · rw [if_pos b, hno (by omega)]
      · rw [if_neg b, lw64 _ (by omega) (by omega)]
        refine ih k (i + 1) (by omega) (by omega) (fun j h => ?_)
        by_cases e : j = i
        · subst e; omega
        · exact hj j (by omega)
theorem may_eq (segs : List Int) (hm : segs.length ≤ 9223372036854775807) : weighlockref06_May.f (segs.length + 1) segs = some (goodB segs) := by
  unfold weighlockref06_May.f
  exact may_loop segs hm segs.length _ 0 (by omega) (by omega) (fun j h => absurd h (by omega))
/-- of each sector its label -/
def ownL (segs : List Int) : Nat → List Int
  | 0 => []
  | i + 1 => ownL segs i ++ List.replicate (2 + 16 * rd segs i).toNat (i : Int)
theorem ownL_length (segs : List Int) (n : Nat) (h : ∀ i : Nat, i < n → 6 ≤ rd segs i ∧ rd segs i ≤ 64) : ((ownL segs n).length : Int) = bg segs n := by
  induction n with
  | zero => rfl
  | succ n ih =>
    have := ih (fun i hi => h i (by omega))
    have := h n (by omega)
    simp only [ownL, bg, List.length_append, List.length_replicate]
    omega
theorem ownL_prefix (segs : List Int) (j d : Nat) : ∃ t, ownL segs (j + d) = ownL segs j ++ t := by
  induction d with
  | zero => exact ⟨[], by simp⟩
  | succ d ih =>
    obtain ⟨t, ht⟩ := ih
    exact ⟨t ++ List.replicate (2 + 16 * rd segs ((j + d : Nat) : Int)).toNat ((j + d : Nat) : Int), by rw [show j + (d + 1) = (j + d) + 1 by omega]; simp only [ownL]; rw [ht, List.append_assoc]⟩
theorem ownL_at (segs : List Int) (n j s : Nat) (h : ∀ i : Nat, i < n → 6 ≤ rd segs i ∧ rd segs i ≤ 64) (hj : j < n) (h0 : bg segs j ≤ s) (h1 : (s : Int) < bg segs (j + 1)) : rd (ownL segs n) s = j := by
  obtain ⟨t, ht⟩ := ownL_prefix segs (j + 1) (n - (j + 1))
  rw [show j + 1 + (n - (j + 1)) = n by omega] at ht
  have l0 := ownL_length segs j (fun i hi => h i (by omega))
  have l1 := ownL_length segs (j + 1) (fun i hi => h i (by omega))
  rw [ht]
  unfold rd
  rw [Int.toNat_natCast, List.getD_eq_getElem?_getD, List.getElem?_append_left (by omega)]
  simp only [ownL] at l1 ⊢
  rw [List.getElem?_append_right (by omega), List.getElem?_replicate]
  rw [List.length_append, List.length_replicate] at l1
  rw [if_pos (by omega)]
  rfl
theorem own_fill (segs : List Int) (n : Nat) (hn : n ≤ 6) (i : Nat) (hi : i < n) (h : ∀ i : Nat, i < n → 6 ≤ rd segs i ∧ rd segs i ≤ 64) (d : Nat) : ∀ (k c : Nat), c + d = (2 + 16 * rd segs i).toNat → d < k →
    weighlockref06_Owners.l1 k (ownL segs i ++ List.replicate c (i : Int)) i segs n i (2 + 16 * rd segs i) c = weighlockref06_Owners.l0 (k - d - 1) (ownL segs (i + 1)) segs n ((i + 1 : Nat) : Int) := by
  induction d with
  | zero =>
    intro k c hc hk
    obtain ⟨k, rfl⟩ : ∃ m, k = m + 1 := ⟨k - 1, by omega⟩
    have := h i hi
    simp only [weighlockref06_Owners.l1]
    rw [if_neg (by omega), lw64 _ (by omega) (by omega)]
    obtain rfl : c = (2 + 16 * rd segs i).toNat := by omega
    rfl
  | succ d ih =>
    intro k c hc hk
    obtain ⟨k, rfl⟩ : ∃ m, k = m + 1 := ⟨k - 1, by omega⟩
    have hr := h i hi
    have hl := ownL_length segs i (fun j hj => h j (by omega))
    have hb := bg_range segs i (by omega) (fun j hj => h j (by omega))
    simp only [weighlockref06_Owners.l1]
    rw [if_pos (by omega), if_pos (by rw [List.length_append, List.length_replicate]; omega), lw64 _ (by omega) (by omega), List.append_assoc, ← List.replicate_succ']
    have := ih k (c + 1) (by omega) (by omega)
    rw [show k + 1 - (d + 1) - 1 = k - d - 1 by omega]
    exact this
theorem owners_loop (segs : List Int) (hg : Good segs) (d : Nat) : ∀ (k i : Nat), i + d = segs.length → 1030 * d < k → weighlockref06_Owners.l0 k (ownL segs i) segs segs.length i = some (ownL segs segs.length) := by
  induction d with
  | zero =>
    intro k i hi hk
    obtain ⟨k, rfl⟩ : ∃ m, k = m + 1 := ⟨k - 1, by omega⟩
    obtain rfl : i = segs.length := by omega
    simp only [weighlockref06_Owners.l0]
    rw [if_neg (by omega)]
  | succ d ih =>
    intro k i hi hk
    obtain ⟨k, rfl⟩ : ∃ m, k = m + 1 := ⟨k - 1, by omega⟩
    obtain ⟨h1, h6, hall⟩ := hg
    have hr := hall i (by omega)
    simp only [weighlockref06_Owners.l0]
    rw [if_pos (by omega), if_pos (by omega), if_pos (by omega), lw64 (16 * _) (by omega) (by omega), lw64 (2 + _) (by omega) (by omega)]
    have := own_fill segs segs.length h6 i (by omega) hall (2 + 16 * rd segs i).toNat k 0 (by omega) (by omega)
    rw [List.replicate_zero, List.append_nil] at this
    have hle : (2 + 16 * rd segs i).toNat ≤ 1026 := by omega
    refine this.trans ?_
    clear this
    generalize (2 + 16 * rd segs i).toNat = c at *
    have hk2 : 1030 * d < k - c - 1 := by omega
    exact ih (k - c - 1) (i + 1) (by omega) hk2
theorem owners_eq (segs : List Int) (hg : Good segs) (k : Nat) (hk : 7000 ≤ k) : weighlockref06_Owners.f k segs = some (ownL segs segs.length) := by
  unfold weighlockref06_Owners.f
  have := hg.2.1
  have hd : 1030 * segs.length < k := by omega
  exact owners_loop segs hg segs.length k 0 (Nat.zero_add _) hd
end Go.Proofs.Ytbpdgpaoibcilaa.HandLayout
