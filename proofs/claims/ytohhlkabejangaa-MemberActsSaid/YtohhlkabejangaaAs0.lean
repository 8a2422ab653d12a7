import Derived.Test.YtohhlkabejangaaPAsx1
import Derived.Test.YtohhlkabejangaaPAsx2
import Derived.Test.YtohhlkabejangaaPAsx3
import Derived.Test.YtohhlkabejangaaPAsx4
namespace Go.Proofs.Ytohhlkabejangaa.As
open Go.RowKit Go.Proofs.YtohhlkabejangaaW.PrintWords Go.Proofs.YtohhlkabejangaaW.PrintLast Go.Proofs.YtohhlkabejangaaW.PrintMore Go.Proofs.Ytohhlkabejangaa.PAs
set_option linter.unusedVariables false
theorem w64 (x : Int) (h0 : -9223372036854775808 ≤ x) (h1 : x ≤ 9223372036854775807) : wrap64 x = x := by unfold wrap64; omega
theorem str_toList (s : ByteArray) : s.toList = s.data.toList := by
  exact ByteArray.toList_eq s
theorem nil_size (s : ByteArray) : s.toList = ([] : List UInt8) ↔ s.size = 0 := by
  rw [str_toList, ← data_length]
  exact List.length_eq_zero_iff.symm
/-- may a letter stand in a name? -/
def okc (c : Int) : Bool := (decide (97 ≤ c) && decide (c ≤ 122)) || (decide (48 ≤ c) && decide (c ≤ 57)) || decide (c = 45)
def nameB (s : ByteArray) : Bool := decide (1 ≤ s.size) && decide (s.size ≤ 12) && (List.range s.size).all fun i => okc (bt s i)
theorem all_bad (s : ByteArray) (i : Nat) (hi : i < s.size) (h : okc (bt s i) = false) : (List.range s.size).all (fun i => okc (bt s i)) = false := by
  rw [List.all_eq_false]
  exact ⟨i, List.mem_range.2 hi, by simp [h]⟩
theorem all_good (s : ByteArray) (h : ∀ i : Nat, i < s.size → okc (bt s i) = true) : (List.range s.size).all (fun i => okc (bt s i)) = true := by
  rw [List.all_eq_true]
  exact fun i hi => h i (List.mem_range.1 hi)
theorem okc_of (c : Int) (h : (97 ≤ c ∧ c ≤ 122) ∨ (48 ≤ c ∧ c ≤ 57) ∨ c = 45) : okc c = true := by
  unfold okc
  simp only [Bool.or_eq_true, Bool.and_eq_true, decide_eq_true_eq]
  omega
theorem okc_not (c : Int) (h : ¬ ((97 ≤ c ∧ c ≤ 122) ∨ (48 ≤ c ∧ c ≤ 57) ∨ c = 45)) : okc c = false := by
  rw [Bool.eq_false_iff]
  intro e
  unfold okc at e
  simp only [Bool.or_eq_true, Bool.and_eq_true, decide_eq_true_eq] at e
  omega
theorem name_loop (s : ByteArray) (h0 : 1 ≤ s.size) (h12 : s.size ≤ 12) (d : Nat) : ∀ (k i : Nat), i + d = s.size → d < k → (∀ j : Nat, j < i → okc (bt s j) = true) → topic_Name.l0 k s s.size i = some (nameB s) := by
  induction d with
  | zero =>
    intro k i hi hk hj
    obtain ⟨k, rfl⟩ : ∃ m, k = m + 1 := ⟨k - 1, by omega⟩
    simp only [topic_Name.l0]
    rw [if_neg (by omega)]
    congr 1
    unfold nameB
    rw [all_good s (fun j h => hj j (by omega)), decide_eq_true h0, decide_eq_true h12]
    rfl
  | succ d ih =>
    intro k i hi hk hj
    obtain ⟨k, rfl⟩ : ∃ m, k = m + 1 := ⟨k - 1, by omega⟩
    have hstep : okc (bt s i) = true → topic_Name.l0 k s s.size ((i : Int) + 1) = some (nameB s) := fun ho => ih k (i + 1) (by omega) (by omega) (fun j h => by
      by_cases e : j = i
      · subst e; exact ho
      · exact hj j (by omega))
    have hno : okc (bt s i) = false → nameB s = false := fun ho => by
      unfold nameB
      rw [all_bad s i (by omega) ho]
      simp
    simp only [topic_Name.l0]
    rw [if_pos (by omega), if_pos (by omega), if_pos (by omega), w64 _ (by omega) (by omega)]
    have yes := fun h => hstep (okc_of (bt s i) h)
    have no := fun h => hno (okc_not (bt s i) h)
    generalize bt s i = c at *
    repeat' split
    all_goals first
      | exact yes (by omega)
      | (rw [no (by omega)])
theorem name_eq (s : ByteArray) (hs : s.size ≤ 140737488351232) (k0 : Nat) (hk0 : 20 ≤ k0) : topic_Name.f k0 s = some (nameB s) := by
  obtain ⟨k, rfl⟩ : ∃ k, k0 = k + 1 := ⟨k0 - 1, by omega⟩
  unfold topic_Name.f
  by_cases h : s.toList = ([] : List UInt8)
  · rw [if_pos h]
    simp only [topic_Name.j0]
    rw [if_pos trivial]
    congr 1
    have := (nil_size s).1 h
    unfold nameB
    rw [decide_eq_false (show ¬ 1 ≤ s.size by omega)]
    rfl
  · rw [if_neg h]
    have hz : s.size ≠ 0 := fun e => h ((nil_size s).2 e)
    simp only [topic_Name.j0]
    by_cases h8 : (s.size : Int) > 12
    · rw [decide_eq_true h8, if_pos rfl]
      congr 1
      unfold nameB
      rw [decide_eq_false (show ¬ s.size ≤ 12 by omega)]
      simp
    · rw [decide_eq_false h8, if_neg (by simp)]
      exact name_loop s (by omega) (by omega) s.size k 0 (by omega) (by omega) (fun j h => absurd h (by omega))
theorem ref_name_loop (s : ByteArray) (hs : s.size ≤ 140737488351232) (d : Nat) : ∀ (k i : Nat), i + d = s.size → d < k → (∀ j : Nat, j < i → okc (bt s j) = true) → weighlockref22_Name.l0 k s s.size i = some (nameB s) := by
  induction d with
  | zero =>
    intro k i hi hk hj
    obtain ⟨k, rfl⟩ : ∃ m, k = m + 1 := ⟨k - 1, by omega⟩
    simp only [weighlockref22_Name.l0]
    rw [if_neg (by omega)]
    unfold nameB
    rw [all_good s (fun j h => hj j (by omega))]
    by_cases a : (s.size : Int) ≥ 1
    · rw [if_pos a, decide_eq_true (show 1 ≤ s.size by omega)]
      congr 1
      simp only [Bool.true_and, Bool.and_true]
      rw [Bool.eq_iff_iff, decide_eq_true_eq, decide_eq_true_eq]
      omega
    · rw [if_neg a, decide_eq_false (show ¬ 1 ≤ s.size by omega)]
      rfl
  | succ d ih =>
    intro k i hi hk hj
    obtain ⟨k, rfl⟩ : ∃ m, k = m + 1 := ⟨k - 1, by omega⟩
    have hstep : okc (bt s i) = true → weighlockref22_Name.l0 k s s.size ((i : Int) + 1) = some (nameB s) := fun ho => ih k (i + 1) (by omega) (by omega) (fun j h => by
      by_cases e : j = i
      · subst e; exact ho
      · exact hj j (by omega))
    have hno : okc (bt s i) = false → nameB s = false := fun ho => by
      unfold nameB
      rw [all_bad s i (by omega) ho]
      simp
    simp only [weighlockref22_Name.l0]
    rw [if_pos (by omega), if_pos (by omega), if_pos (by omega), w64 _ (by omega) (by omega)]
    have yes := fun h => hstep (okc_of (bt s i) h)
    have no := fun h => hno (okc_not (bt s i) h)
    generalize bt s i = c at *
    repeat' split
    all_goals first
      | exact yes (by omega)
      | (rw [no (by omega)])
theorem ref_name (s : ByteArray) (hs : s.size ≤ 140737488351232) (k : Nat) (hk : s.size < k) : weighlockref22_Name.f k s = some (nameB s) := by
  unfold weighlockref22_Name.f
  exact ref_name_loop s hs s.size k 0 (by omega) hk (fun j h => absurd h (by omega))
end Go.Proofs.Ytohhlkabejangaa.As
