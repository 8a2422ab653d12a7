import Derived.Test.YtohhlkabejangaaAs4
namespace Go.Proofs.Ytohhlkabejangaa.As
open Go.RowKit Go.Maps Go.Sort Go.ChangeShapes Go.Proofs.YtohhlkabejangaaW.PrintWords Go.Proofs.YtohhlkabejangaaW.PrintLast Go.Proofs.YtohhlkabejangaaW.PrintMore Go.Proofs.Ytohhlkabejangaa.PAs
set_option linter.unusedVariables false
set_option linter.unusedSimpArgs false
/-! ### What members have, told without a map -/
/-- how many members come ahead of one -/
def rkL (l : List ByteArray) (x : List UInt8) : Nat := (l.map (·.toList)).countP (fun y => decide (y < x))
/-- a member's partitions, by the reference -/
def ofL (l : List ByteArray) (n : Nat) (x : List UInt8) : List Int := numsG (startG n l.length (rkL l x)) (if rkL l x < l.length then cntG n l.length (rkL l x) else 0)
/-- the error of Range -/
def errA (l : List ByteArray) (n : Int) : Int := if wrongL l = 0 then (if n < 0 ∨ n > 4 then 1 else 0) else wrongL l
def isIn (l : List ByteArray) (x : List UInt8) : Bool := (l.map (·.toList)).contains x
theorem isIn_srt (l : List ByteArray) (x : List UInt8) : isIn l x = true ↔ x ∈ srt l := by
  unfold isIn
  rw [List.contains_iff_mem]
  exact (srt_perm l).mem_iff.symm
/-- the error of Of -/
def errOf (l : List ByteArray) (n : Int) (x : List UInt8) : Int := if errA l n = 0 then (if isIn l x = true then 0 else 6) else errA l n
theorem wrong_nodup {l : List ByteArray} (h : wrongL l = 0) : (l.map (·.toList)).Nodup := by
  unfold wrongL at h
  split at h
  · split at h
    · assumption
    · cases h
  · cases h
theorem errA_zero {l : List ByteArray} {n : Int} (h : errA l n = 0) : wrongL l = 0 ∧ 0 ≤ n ∧ n ≤ 4 := by
  unfold errA at h
  split at h
  · rename_i h0
    split at h
    · cases h
    · rename_i h1
      exact ⟨h0, by omega, by omega⟩
  · rename_i h0
    exact (h0 h).elim
theorem errA_of {l : List ByteArray} {n : Int} (h : wrongL l = 0) (h0 : 0 ≤ n) (h4 : n ≤ 4) : errA l n = 0 := by
  unfold errA
  rw [if_pos h, if_neg (by omega)]
theorem errA_bad {l : List ByteArray} {n : Int} (h : errA l n ≠ 0) : (wrongL l ≠ 0 ∨ n < 0 ∨ n > 4) ∧ errA l n = if wrongL l = 0 then 1 else wrongL l := by
  unfold errA at h ⊢
  split
  · rename_i h0
    rw [if_pos h0] at h
    split
    · rename_i h1
      exact ⟨.inr h1, rfl⟩
    · rename_i h1
      rw [if_neg h1] at h
      exact (h rfl).elim
  · rename_i h0
    exact ⟨.inl h0, rfl⟩
theorem srt_lt (l : List ByteArray) (h : (l.map (·.toList)).Nodup) : (srt l).Pairwise (fun a b => a < b) := by
  have h1 := srt_sorted l
  have h2 : (srt l).Nodup := (srt_nodup l).2 h
  rw [List.Nodup] at h2
  refine (h1.and h2).imp ?_
  rintro a b ⟨h3, h4⟩
  exact Std.lt_of_le_of_ne h3 h4
theorem count_lt : ∀ (ss : List (List UInt8)), ss.Pairwise (fun a b => a < b) → ∀ (i : Nat) (hi : i < ss.length), ss.countP (fun y => decide (y < ss[i])) = i
  | [], _, i, hi => absurd hi (Nat.not_lt_zero _)
  | s :: ss, hp, 0, hi => by
    rw [List.countP_eq_zero]
    intro y hy
    simp only [List.getElem_cons_zero, decide_eq_true_eq]
    rcases List.mem_cons.1 hy with e | e
    · rw [e]; exact List.lt_irrefl s
    · intro h9
      exact List.lt_irrefl s (List.lt_trans ((List.pairwise_cons.1 hp).1 y e) h9)
  | s :: ss, hp, i + 1, hi => by
    have ih := count_lt ss (List.pairwise_cons.1 hp).2 i (by simpa using hi)
    have h1 : s < ss[i]'(by simpa using hi) := (List.pairwise_cons.1 hp).1 _ (List.getElem_mem _)
    rw [List.countP_cons]
    simp only [List.getElem_cons_succ, decide_eq_true h1, if_true]
    rw [ih]
theorem rk_srt (l : List ByteArray) (h : (l.map (·.toList)).Nodup) (i : Nat) (hi : i < (srt l).length) : rkL l ((srt l)[i]) = i := by
  unfold rkL
  rw [← (srt_perm l).countP_eq]
  exact count_lt _ (srt_lt l h) i hi
theorem rk_lt (l : List ByteArray) (h : (l.map (·.toList)).Nodup) (x : List UInt8) (hx : x ∈ srt l) : rkL l x < l.length ∧ (srt l).getD (rkL l x) [] = x := by
  obtain ⟨i, hi, rfl⟩ := List.getElem_of_mem hx
  rw [rk_srt l h i hi]
  exact ⟨by rwa [srt_length] at hi, by rw [List.getD_eq_getElem?_getD, List.getElem?_eq_getElem hi]; rfl⟩
theorem rowsG_get (n : Nat) (ss : List (List UInt8)) : ∀ (m i : Nat), i < m → (rowsG n ss m)[i]? = some (ss.getD i [], numsG (startG n ss.length i) (cntG n ss.length i))
  | 0, i, h => absurd h (Nat.not_lt_zero _)
  | m + 1, i, h => by
    unfold rowsG
    by_cases e : i = m
    · subst e
      rw [List.getElem?_append_right (by rw [rowsG_length]; omega), rowsG_length, Nat.sub_self]
      rfl
    · rw [List.getElem?_append_left (by rw [rowsG_length]; omega)]
      exact rowsG_get n ss m i (by omega)
theorem rowsG_fst (n : Nat) (ss : List (List UInt8)) : ∀ m, m ≤ ss.length → (rowsG n ss m).map (·.1) = ss.take m
  | 0, _ => by simp [rowsG]
  | m + 1, h => by
    unfold rowsG
    rw [List.map_append, rowsG_fst n ss m (by omega), List.take_add_one, List.getD_eq_getElem?_getD, List.getElem?_eq_getElem (by omega)]
    rfl
theorem datG_has (l : List ByteArray) (n : Nat) (x : List UInt8) : Maps.has (datG (rowsG n (srt l) l.length)) (.string x) = isIn l x := by
  rw [hasG, Bool.eq_iff_iff, isIn_srt, List.any_eq_true]
  have h := rowsG_fst n (srt l) l.length (by rw [srt_length]; exact Nat.le_refl _)
  rw [← srt_length l, List.take_length, srt_length l] at h
  constructor
  · rintro ⟨y, hy, e⟩
    rw [← h, ← of_decide_eq_true e]
    exact List.mem_map_of_mem hy
  · intro hx
    rw [← h] at hx
    obtain ⟨y, hy, rfl⟩ := List.mem_map.1 hx
    exact ⟨y, hy, decide_eq_true rfl⟩
theorem datG_at (l : List ByteArray) (hl : wrongL l = 0) (n : Nat) (x : List UInt8) (hx : isIn l x = true) : (datG (rowsG n (srt l) l.length)).atKey (.string x) .nil = dz (ofL l n x) := by
  have hn := wrong_nodup hl
  have hm := (isIn_srt l x).1 hx
  obtain ⟨h1, h2⟩ := rk_lt l hn x hm
  have h3 := rowsG_get n (srt l) l.length (rkL l x) h1
  rw [h2, srt_length] at h3
  have h4 := atG_mem (rowsG n (srt l) l.length) (rowsG_pw n (srt l) (srt_lt l hn) l.length (by rw [srt_length]; exact Nat.le_refl _)) _ (List.mem_of_getElem? h3)
  unfold ofL
  rw [if_pos h1]
  exact h4
theorem ofL_none (l : List ByteArray) (n : Nat) (x : List UInt8) : (ofL l n x).length ≤ n := by
  unfold ofL
  rw [numsG_length]
  split
  · rename_i h
    unfold cntG
    generalize hk : rkL l x = k at *
    have h1 := Nat.div_add_mod n l.length
    have h2 : n / l.length ≤ n := Nat.div_le_self _ _
    split
    · rename_i h3
      by_cases h4 : n / l.length = n
      · by_cases h5 : n = 0
        · subst h5; simp at h3
        · have : l.length * n + n % l.length = n := by rw [h4] at h1; exact h1
          have : 1 ≤ l.length := by omega
          have h6 : n ≤ l.length * n := Nat.le_mul_of_pos_left n (by omega)
          omega
      · omega
    · omega
  · omega
/-- where each member's partitions begin -/
theorem startG_eq (n s : Nat) : ∀ i, startG n s i = i * (n / s) + min i (n % s)
  | 0 => by simp [startG]
  | i + 1 => by
    unfold startG
    rw [startG_eq n s i]
    unfold cntG
    rw [Nat.succ_mul]
    split <;> omega
theorem startG_all (n s : Nat) (hs : 0 < s) : startG n s s = n := by
  rw [startG_eq, Nat.min_eq_right (Nat.le_of_lt (Nat.mod_lt n hs))]
  exact Nat.div_add_mod n s
theorem startG_mono (n s : Nat) (i d : Nat) : startG n s i ≤ startG n s (i + d) := by
  induction d with
  | zero => exact Nat.le_refl _
  | succ d ih => exact Nat.le_trans ih (Nat.le_add_right _ _)
theorem startG_le (n s : Nat) (hs : 0 < s) (i : Nat) (hi : i ≤ s) : startG n s i ≤ n := by
  have := startG_mono n s i (s - i)
  rw [show i + (s - i) = s by omega, startG_all n s hs] at this
  exact this
theorem mem_numsG (a c : Nat) (p : Int) : p ∈ numsG a c ↔ (a : Int) ≤ p ∧ p < (a + c : Nat) := by
  unfold numsG
  rw [List.mem_map]
  constructor
  · rintro ⟨j, hj, rfl⟩
    have := List.mem_range.1 hj
    omega
  · rintro ⟨h1, h2⟩
    exact ⟨p.toNat - a, List.mem_range.2 (by omega), by omega⟩
/-- two members have no partition in common -/
theorem ofL_apart (l : List ByteArray) (hl : wrongL l = 0) (n : Nat) (x y : List UInt8) (hx : isIn l x = true) (hy : isIn l y = true) (p : Int) (h1 : p ∈ ofL l n x) (h2 : p ∈ ofL l n y) : x = y := by
  have hn := wrong_nodup hl
  obtain ⟨a1, a2⟩ := rk_lt l hn x ((isIn_srt l x).1 hx)
  obtain ⟨b1, b2⟩ := rk_lt l hn y ((isIn_srt l y).1 hy)
  unfold ofL at h1 h2
  rw [if_pos a1, mem_numsG] at h1
  rw [if_pos b1, mem_numsG] at h2
  rw [← a2, ← b2]
  congr 1
  generalize rkL l x = i at *
  generalize rkL l y = j at *
  have hs : ∀ i, startG n l.length (i + 1) = startG n l.length i + cntG n l.length i := fun i => rfl
  rcases Nat.lt_trichotomy i j with h | h | h
  · have := startG_mono n l.length (i + 1) (j - (i + 1))
    rw [show i + 1 + (j - (i + 1)) = j by omega] at this
    have := hs i
    omega
  · exact h
  · have := startG_mono n l.length (j + 1) (i - (j + 1))
    rw [show j + 1 + (i - (j + 1)) = i by omega] at this
    have := hs j
    omega
theorem ofL_range (l : List ByteArray) (n : Nat) (x : List UInt8) (p : Int) (h : p ∈ ofL l n x) : 0 ≤ p ∧ p < n := by
  unfold ofL at h
  rw [mem_numsG] at h
  generalize rkL l x = i at *
  split at h
  · rename_i hi
    have := startG_le n l.length (by omega) (i + 1) (by omega)
    have hs : startG n l.length (i + 1) = startG n l.length i + cntG n l.length i := rfl
    omega
  · omega
/-- each partition is someone's -/
theorem ofL_some (l : List ByteArray) (hl : wrongL l = 0) (h0 : 0 < l.length) (n : Nat) (p : Int) (h1 : 0 ≤ p) (h2 : p < n) : ∃ x, isIn l x = true ∧ p ∈ ofL l n x := by
  have hn := wrong_nodup hl
  have key : ∀ m, m ≤ l.length → p < startG n l.length m → ∃ i, i < m ∧ (startG n l.length i : Int) ≤ p ∧ p < startG n l.length (i + 1) := by
    intro m
    induction m with
    | zero => intro _ h; unfold startG at h; omega
    | succ m ih =>
      intro hm hp
      by_cases h : p < startG n l.length m
      · obtain ⟨i, hi, h3⟩ := ih (by omega) h
        exact ⟨i, by omega, h3⟩
      · exact ⟨m, by omega, by omega, hp⟩
  obtain ⟨i, hi, h3, h4⟩ := key l.length (Nat.le_refl _) (by rw [startG_all n _ h0]; exact h2)
  have hi' : i < (srt l).length := by rw [srt_length]; exact hi
  refine ⟨(srt l)[i], (isIn_srt l _).2 (List.getElem_mem _), ?_⟩
  unfold ofL
  rw [rk_srt l hn i hi', if_pos hi, mem_numsG]
  exact ⟨h3, h4⟩
theorem ofL_len (l : List ByteArray) (hl : wrongL l = 0) (n : Nat) (x : List UInt8) (hx : isIn l x = true) : n / l.length ≤ (ofL l n x).length ∧ (ofL l n x).length ≤ n / l.length + 1 := by
  obtain ⟨h1, _⟩ := rk_lt l (wrong_nodup hl) x ((isIn_srt l x).1 hx)
  unfold ofL
  rw [numsG_length, if_pos h1]
  unfold cntG
  split <;> omega
theorem numsG_nodup (a c : Nat) : (numsG a c).Nodup := by
  unfold numsG
  rw [List.Nodup, List.pairwise_map]
  exact List.nodup_range.imp (fun h e => h (by omega))
theorem ofL_nodup (l : List ByteArray) (n : Nat) (x : List UInt8) : (ofL l n x).Nodup := numsG_nodup _ _
/-! ### The order in which members are told changes nothing -/
theorem perm_facts {l m : List ByteArray} (h : l.Perm m) : wrongL l = wrongL m ∧ (∀ x, rkL l x = rkL m x) ∧ (∀ x, isIn l x = isIn m x) ∧ srt l = srt m := by
  have hm : (l.map (·.toList)).Perm (m.map (·.toList)) := h.map _
  refine ⟨?_, fun x => ?_, fun x => ?_, ?_⟩
  · unfold wrongL
    have e1 : l.all nameB = m.all nameB := by
      rw [Bool.eq_iff_iff, List.all_eq_true, List.all_eq_true]
      exact ⟨fun h1 x hx => h1 x (h.mem_iff.2 hx), fun h1 x hx => h1 x (h.mem_iff.1 hx)⟩
    rw [e1]
    simp only [hm.nodup_iff]
  · unfold rkL
    rw [hm.countP_eq]
  · unfold isIn
    rw [Bool.eq_iff_iff, List.contains_iff_mem, List.contains_iff_mem]
    exact hm.mem_iff
  · refine List.Perm.eq_of_pairwise (le := fun a b => a ≤ b) (fun a b _ _ h1 h2 => List.le_antisymm h1 h2) (srt_sorted l) (srt_sorted m) ?_
    exact (srt_perm l).trans (hm.trans (srt_perm m).symm)
theorem perm_ofL {l m : List ByteArray} (h : l.Perm m) (n : Nat) (x : List UInt8) : ofL l n x = ofL m n x := by
  unfold ofL
  rw [(perm_facts h).2.1 x, h.length_eq]
theorem perm_errOf {l m : List ByteArray} (h : l.Perm m) (n : Int) (x : List UInt8) : errOf l n x = errOf m n x := by
  unfold errOf errA
  rw [(perm_facts h).1, (perm_facts h).2.2.1 x]
theorem turn_perm (l : List ByteArray) (n : Nat) : l.Perm (l.drop n ++ l.take n) := by
  conv => lhs; rw [← List.take_append_drop n l]
  exact List.perm_append_comm
end Go.Proofs.Ytohhlkabejangaa.As
