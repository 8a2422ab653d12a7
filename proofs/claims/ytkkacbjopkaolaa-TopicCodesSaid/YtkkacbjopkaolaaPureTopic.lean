import Derived.Test.YtkkacbjopkaolaaPureGen
namespace Go.Proofs.Ytkkacbjopkaolaa.PureTopic
open Go.RowKit Go.Proofs.YtkkacbjopkaolaaW.PrintWords Go.Proofs.YtkkacbjopkaolaaW.PrintLast Go.Proofs.YtkkacbjopkaolaaW.PrintMore Go.Proofs.Ytkkacbjopkaolaa.Hand Go.Proofs.Ytkkacbjopkaolaa.PTopicA Go.Proofs.Ytkkacbjopkaolaa.PureNums
set_option linter.unusedVariables false

/-- may a letter stand in a name? -/
def okc (c : Int) : Bool := (decide (97 ≤ c) && decide (c ≤ 122)) || (decide (48 ≤ c) && decide (c ≤ 57)) || decide (c = 45)
def nameB (s : ByteArray) : Bool := decide (1 ≤ s.size) && decide (s.size ≤ 12) && (List.range s.size).all fun i => okc (bt s i)
def rightF (s : ByteArray) (p a z : Int) : Bool := nameB s && (decide (1 ≤ p) && decide (p ≤ 4)) && (decide (0 ≤ a) && decide (a ≤ 1099511627776)) && (decide (0 ≤ z) && decide (z ≤ 1099511627776))
theorem all_bad (s : ByteArray) (i : Nat) (hi : i < s.size) (h : okc (bt s i) = false) : (List.range s.size).all (fun i => okc (bt s i)) = false := by
  rw [List.all_eq_false]
  exact ⟨i, List.mem_range.2 hi, by simp [h]⟩
theorem all_good (s : ByteArray) (h : ∀ i : Nat, i < s.size → okc (bt s i) = true) : (List.range s.size).all (fun i => okc (bt s i)) = true := by
  rw [List.all_eq_true]
  exact fun i hi => h i (List.mem_range.1 hi)
theorem okc_of (c : Int) (h : (97 ≤ c ∧ c ≤ 122) ∨ (48 ≤ c ∧ c ≤ 57) ∨ c = 45) : okc c = true := by
  unfold okc
  simp only [Bool.or_eq_true, Bool.and_eq_true, decide_eq_true_eq]
  omega
theorem okc_not (c : Int) (h : ¬ ((97 ≤ c ∧ c ≤ 122) ∨ (48 ≤ c ∧ c ≤ 57) ∨ c = 45)) : okc c = false := by
  rw [Bool.eq_false_iff]
  intro e
  unfold okc at e
  simp only [Bool.or_eq_true, Bool.and_eq_true, decide_eq_true_eq] at e
  omega
theorem name_loop (s : ByteArray) (h0 : 1 ≤ s.size) (h12 : s.size ≤ 12) (d : Nat) : ∀ (k i : Nat), i + d = s.size → d < k → (∀ j : Nat, j < i → okc (bt s j) = true) → topic_Name.l0 k s s.size i = some (nameB s) := by
  induction d with
  | zero =>
    intro k i hi hk hj
    obtain ⟨k, rfl⟩ : ∃ m, k = m + 1 := ⟨k - 1, by omega⟩
    simp only [topic_Name.l0]
    rw [if_neg (by omega)]
    congr 1
    unfold nameB
    rw [all_good s (fun j h => hj j (by omega)), decide_eq_true h0, decide_eq_true h12]
    rfl
  | succ d ih =>
    intro k i hi hk hj
    obtain ⟨k, rfl⟩ : ∃ m, k = m + 1 := ⟨k - 1, by omega⟩
    have hstep : okc (bt s i) = true → topic_Name.l0 k s s.size ((i : Int) + 1) = some (nameB s) := fun ho => ih k (i + 1) (by omega) (by omega) (fun j h => by
      by_cases e : j = i
      · subst e; exact ho
      · exact hj j (by omega))
    have hno : okc (bt s i) = false → nameB s = false := fun ho => by
      unfold nameB
      rw [all_bad s i (by omega) ho]
      simp
    simp only [topic_Name.l0]
    rw [if_pos (by omega), if_pos (by omega), if_pos (by omega), w64 _ (by omega) (by omega)]
    have yes := fun h => hstep (okc_of (bt s i) h)
    have no := fun h => hno (okc_not (bt s i) h)
    generalize bt s i = c at *
    repeat' split
    all_goals first
      | exact yes (by omega)
      | (rw [no (by omega)])
theorem name_eq (s : ByteArray) (hs : s.size ≤ 140737488351232) (k0 : Nat) (hk0 : 20 ≤ k0) : topic_Name.f k0 s = some (nameB s) := by
  obtain ⟨k, rfl⟩ : ∃ k, k0 = k + 1 := ⟨k0 - 1, by omega⟩
  unfold topic_Name.f
  by_cases h : s.toList = ([] : List UInt8)
  · rw [if_pos h]
    simp only [topic_Name.j0]
    rw [if_pos trivial]
    congr 1
    have := (nil_size s).1 h
    unfold nameB
    rw [decide_eq_false (show ¬ 1 ≤ s.size by omega)]
    rfl
  · rw [if_neg h]
    have hz : s.size ≠ 0 := fun e => h ((nil_size s).2 e)
    simp only [topic_Name.j0]
    by_cases h8 : (s.size : Int) > 12
    · rw [decide_eq_true h8, if_pos rfl]
      congr 1
      unfold nameB
      rw [decide_eq_false (show ¬ s.size ≤ 12 by omega)]
      simp
    · rw [decide_eq_false h8, if_neg (by simp)]
      exact name_loop s (by omega) (by omega) s.size k 0 (by omega) (by omega) (fun j h => absurd h (by omega))
theorem ref_name_loop (s : ByteArray) (hs : s.size ≤ 140737488351232) (d : Nat) : ∀ (k i : Nat), i + d = s.size → d < k → (∀ j : Nat, j < i → okc (bt s j) = true) → weighlockref22_Name.l0 k s s.size i = some (nameB s) := by
  induction d with
  | zero =>
    intro k i hi hk hj
    obtain ⟨k, rfl⟩ : ∃ m, k = m + 1 := ⟨k - 1, by omega⟩
    simp only [weighlockref22_Name.l0]
    rw [if_neg (by omega)]
    unfold nameB
    rw [all_good s (fun j h => hj j (by omega))]
    by_cases a : (s.size : Int) ≥ 1
    · rw [if_pos a, decide_eq_true (show 1 ≤ s.size by omega)]
      congr 1
      simp only [Bool.true_and, Bool.and_true]
      rw [Bool.eq_iff_iff, decide_eq_true_eq, decide_eq_true_eq]
      omega
    · rw [if_neg a, decide_eq_false (show ¬ 1 ≤ s.size by omega)]
      rfl
  | succ d ih =>
    intro k i hi hk hj
    obtain ⟨k, rfl⟩ : ∃ m, k = m + 1 := ⟨k - 1, by omega⟩
    have hstep : okc (bt s i) = true → weighlockref22_Name.l0 k s s.size ((i : Int) + 1) = some (nameB s) := fun ho => ih k (i + 1) (by omega) (by omega) (fun j h => by
      by_cases e : j = i
      · subst e; exact ho
      · exact hj j (by omega))
    have hno : okc (bt s i) = false → nameB s = false := fun ho => by
      unfold nameB
      rw [all_bad s i (by omega) ho]
      simp
    simp only [weighlockref22_Name.l0]
    rw [if_pos (by omega), if_pos (by omega), if_pos (by omega), w64 _ (by omega) (by omega)]
    have yes := fun h => hstep (okc_of (bt s i) h)
    have no := fun h => hno (okc_not (bt s i) h)
    generalize bt s i = c at *
    repeat' split
    all_goals first
      | exact yes (by omega)
      | (rw [no (by omega)])
theorem ref_name (s : ByteArray) (hs : s.size ≤ 140737488351232) (k : Nat) (hk : s.size < k) : weighlockref22_Name.f k s = some (nameB s) := by
  unfold weighlockref22_Name.f
  exact ref_name_loop s hs s.size k 0 (by omega) hk (fun j h => absurd h (by omega))
theorem clamp_eq (a : Int) : (a == mn (mx a 0) 1099511627776) = (decide (0 ≤ a) && decide (a ≤ 1099511627776)) := by
  rw [Bool.eq_iff_iff]
  simp only [beq_iff_eq, Bool.and_eq_true, decide_eq_true_eq]
  unfold mn mx
  omega
theorem right_eq (s : ByteArray) (p a z : Int) (c : Bool) (hs : s.size ≤ 140737488351232) (k : Nat) (hk : 20 ≤ k) : topic_Right.f k s p a z c = some (rightF s p a z) := by
  unfold topic_Right.f rightF
  rw [name_eq s hs k hk]
  simp only [Option.bind_some]
  cases hn : nameB s
  · simp
  · rw [if_pos rfl]
    by_cases h1 : p ≥ 1
    · rw [if_pos h1, decide_eq_true (show 1 ≤ p from h1)]
      by_cases h4 : p ≤ 4
      · rw [if_pos h4, decide_eq_true h4]
        unfold retain_Right.f retain_clamp.f
        simp only [Option.bind_some, Bool.true_and, Bool.and_true]
        have ha := clamp_eq a
        have hz := clamp_eq z
        rw [← hz, ← ha]
        by_cases e : a = mn (mx a 0) 1099511627776
        · rw [if_pos e, beq_iff_eq.2 e]; rfl
        · rw [if_neg e, beq_eq_false_iff_ne.2 e]; rfl
      · rw [if_neg h4, decide_eq_false h4]; simp
    · rw [if_neg h1, decide_eq_false (show ¬ 1 ≤ p from h1)]; simp
theorem ref_right (s : ByteArray) (p a z : Int) (c : Bool) (hs : s.size ≤ 140737488351232) (k : Nat) (hk : s.size < k) : weighlockref22_Right.f k s p a z c = some (rightF s p a z) := by
  unfold weighlockref22_Right.f rightF
  rw [ref_name s hs k hk]
  simp only [Option.bind_some]
  cases hn : nameB s
  · simp
  · rw [if_pos rfl]
    by_cases h1 : p ≥ 1
    · rw [if_pos h1, decide_eq_true (show 1 ≤ p from h1)]
      by_cases h4 : p ≤ 4
      · rw [if_pos h4, decide_eq_true h4]
        by_cases h5 : a ≥ 0
        · rw [if_pos h5, decide_eq_true (show 0 ≤ a from h5)]
          by_cases h6 : a ≤ 1099511627776
          · rw [if_pos h6, decide_eq_true h6]
            by_cases h7 : z ≥ 0
            · rw [if_pos h7, decide_eq_true (show 0 ≤ z from h7)]; rfl
            · rw [if_neg h7, decide_eq_false (show ¬ 0 ≤ z from h7)]; rfl
          · rw [if_neg h6, decide_eq_false h6]; simp
        · rw [if_neg h5, decide_eq_false (show ¬ 0 ≤ a from h5)]; simp
      · rw [if_neg h4, decide_eq_false h4]; simp
    · rw [if_neg h1, decide_eq_false (show ¬ 1 ≤ p from h1)]; simp
end Go.Proofs.Ytkkacbjopkaolaa.PureTopic
