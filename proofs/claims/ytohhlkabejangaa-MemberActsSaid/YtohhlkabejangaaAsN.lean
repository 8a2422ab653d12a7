import Derived.Test.YtohhlkabejangaaAs4
import Derived.Test.YtohhlkabejangaaAs7
import Derived.Sort.Walk0
namespace Go.Proofs.Ytohhlkabejangaa.As
open Go.RowKit Go.Maps Go.Sort Go.ChangeShapes Go.Proofs.YtohhlkabejangaaW.PrintWords Go.Proofs.YtohhlkabejangaaW.PrintLast Go.Proofs.YtohhlkabejangaaW.PrintMore Go.Proofs.Ytohhlkabejangaa.PAs
set_option linter.unusedVariables false
set_option linter.unusedSimpArgs false
/-! ### What members have, told without a map -/
/-- how many members come ahead of one -/
def rkL (l : List ByteArray) (x : List UInt8) : Nat := (l.map (·.toList)).countP (fun y => decide (y < x))
/-- a member's partitions, by the reference -/
def ofL (l : List ByteArray) (n : Nat) (x : List UInt8) : List Int := numsG (startG n l.length (rkL l x)) (if rkL l x < l.length then cntG n l.length (rkL l x) else 0)
/-- the error of Range -/
def errA (l : List ByteArray) (n : Int) : Int := if wrongL l = 0 then (if n < 0 ∨ n > 4 then 1 else 0) else wrongL l
def isIn (l : List ByteArray) (x : List UInt8) : Bool := (l.map (·.toList)).contains x
theorem isIn_srt (l : List ByteArray) (x : List UInt8) : isIn l x = true ↔ x ∈ srt l := by
  unfold isIn
  rw [List.contains_iff_mem]
  exact (srt_perm l).mem_iff.symm
/-- the error of Of -/
def errOf (l : List ByteArray) (n : Int) (x : List UInt8) : Int := if errA l n = 0 then (if isIn l x = true then 0 else 6) else errA l n
theorem wrong_nodup {l : List ByteArray} (h : wrongL l = 0) : (l.map (·.toList)).Nodup := by
  unfold wrongL at h
  split at h
  · split at h
    · assumption
    · cases h
  · cases h
theorem errA_zero {l : List ByteArray} {n : Int} (h : errA l n = 0) : wrongL l = 0 ∧ 0 ≤ n ∧ n ≤ 4 := by
  unfold errA at h
  split at h
  · rename_i h0
    split at h
    · cases h
    · rename_i h1
      exact ⟨h0, by omega, by omega⟩
  · rename_i h0
    exact (h0 h).elim
theorem errA_of {l : List ByteArray} {n : Int} (h : wrongL l = 0) (h0 : 0 ≤ n) (h4 : n ≤ 4) : errA l n = 0 := by
  unfold errA
  rw [if_pos h, if_neg (by omega)]
theorem errA_bad {l : List ByteArray} {n : Int} (h : errA l n ≠ 0) : (wrongL l ≠ 0 ∨ n < 0 ∨ n > 4) ∧ errA l n = if wrongL l = 0 then 1 else wrongL l := by
  unfold errA at h ⊢
  split
  · rename_i h0
    rw [if_pos h0] at h
    split
    · rename_i h1
      exact ⟨.inr h1, rfl⟩
    · rename_i h1
      rw [if_neg h1] at h
      exact (h rfl).elim
  · rename_i h0
    exact ⟨.inl h0, rfl⟩
theorem srt_lt (l : List ByteArray) (h : (l.map (·.toList)).Nodup) : (srt l).Pairwise (fun a b => a < b) := by
  have h1 := srt_sorted l
  have h2 : (srt l).Nodup := (srt_nodup l).2 h
  rw [List.Nodup] at h2
  refine (h1.and h2).imp ?_
  rintro a b ⟨h3, h4⟩
  exact Std.lt_of_le_of_ne h3 h4
theorem count_lt : ∀ (ss : List (List UInt8)), ss.Pairwise (fun a b => a < b) → ∀ (i : Nat) (hi : i < ss.length), ss.countP (fun y => decide (y < ss[i])) = i
  | [], _, i, hi => absurd hi (Nat.not_lt_zero _)
  | s :: ss, hp, 0, hi => by
    rw [List.countP_eq_zero]
    intro y hy
    simp only [List.getElem_cons_zero, decide_eq_true_eq]
    rcases List.mem_cons.1 hy with e | e
    · rw [e]; exact List.lt_irrefl s
    · intro h9
      exact List.lt_irrefl s (List.lt_trans ((List.pairwise_cons.1 hp).1 y e) h9)
  | s :: ss, hp, i + 1, hi => by
    have ih := count_lt ss (List.pairwise_cons.1 hp).2 i (by simpa using hi)
    have h1 : s < ss[i]'(by simpa using hi) := (List.pairwise_cons.1 hp).1 _ (List.getElem_mem _)
    rw [List.countP_cons]
    simp only [List.getElem_cons_succ, decide_eq_true h1, if_true]
    rw [ih]
theorem rk_srt (l : List ByteArray) (h : (l.map (·.toList)).Nodup) (i : Nat) (hi : i < (srt l).length) : rkL l ((srt l)[i]) = i := by
  unfold rkL
  rw [← (srt_perm l).countP_eq]
  exact count_lt _ (srt_lt l h) i hi
theorem rk_lt (l : List ByteArray) (h : (l.map (·.toList)).Nodup) (x : List UInt8) (hx : x ∈ srt l) : rkL l x < l.length ∧ (srt l).getD (rkL l x) [] = x := by
  obtain ⟨i, hi, rfl⟩ := List.getElem_of_mem hx
  rw [rk_srt l h i hi]
  exact ⟨by rwa [srt_length] at hi, by rw [List.getD_eq_getElem?_getD, List.getElem?_eq_getElem hi]; rfl⟩
theorem rowsG_get (n : Nat) (ss : List (List UInt8)) : ∀ (m i : Nat), i < m → (rowsG n ss m)[i]? = some (ss.getD i [], numsG (startG n ss.length i) (cntG n ss.length i))
  | 0, i, h => absurd h (Nat.not_lt_zero _)
  | m + 1, i, h => by
    unfold rowsG
    by_cases e : i = m
    · subst e
      rw [List.getElem?_append_right (by rw [rowsG_length]; omega), rowsG_length, Nat.sub_self]
      rfl
    · rw [List.getElem?_append_left (by rw [rowsG_length]; omega)]
      exact rowsG_get n ss m i (by omega)
theorem rowsG_fst (n : Nat) (ss : List (List UInt8)) : ∀ m, m ≤ ss.length → (rowsG n ss m).map (·.1) = ss.take m
  | 0, _ => by simp [rowsG]
  | m + 1, h => by
    unfold rowsG
    rw [List.map_append, rowsG_fst n ss m (by omega), List.take_add_one, List.getD_eq_getElem?_getD, List.getElem?_eq_getElem (by omega)]
    rfl
theorem datG_has (l : List ByteArray) (n : Nat) (x : List UInt8) : Maps.has (datG (rowsG n (srt l) l.length)) (.string x) = isIn l x := by
  rw [hasG, Bool.eq_iff_iff, isIn_srt, List.any_eq_true]
  have h := rowsG_fst n (srt l) l.length (by rw [srt_length]; exact Nat.le_refl _)
  rw [← srt_length l, List.take_length, srt_length l] at h
  constructor
  · rintro ⟨y, hy, e⟩
    rw [← h, ← of_decide_eq_true e]
    exact List.mem_map_of_mem hy
  · intro hx
    rw [← h] at hx
    obtain ⟨y, hy, rfl⟩ := List.mem_map.1 hx
    exact ⟨y, hy, decide_eq_true rfl⟩
theorem datG_at (l : List ByteArray) (hl : wrongL l = 0) (n : Nat) (x : List UInt8) (hx : isIn l x = true) : (datG (rowsG n (srt l) l.length)).atKey (.string x) .nil = dz (ofL l n x) := by
  have hn := wrong_nodup hl
  have hm := (isIn_srt l x).1 hx
  obtain ⟨h1, h2⟩ := rk_lt l hn x hm
  have h3 := rowsG_get n (srt l) l.length (rkL l x) h1
  rw [h2, srt_length] at h3
  have h4 := atG_mem (rowsG n (srt l) l.length) (rowsG_pw n (srt l) (srt_lt l hn) l.length (by rw [srt_length]; exact Nat.le_refl _)) _ (List.mem_of_getElem? h3)
  unfold ofL
  rw [if_pos h1]
  exact h4
theorem ofL_none (l : List ByteArray) (n : Nat) (x : List UInt8) : (ofL l n x).length ≤ n := by
  unfold ofL
  rw [numsG_length]
  split
  · rename_i h
    unfold cntG
    generalize hk : rkL l x = k at *
    have h1 := Nat.div_add_mod n l.length
    have h2 : n / l.length ≤ n := Nat.div_le_self _ _
    split
    · rename_i h3
      by_cases h4 : n / l.length = n
      · by_cases h5 : n = 0
        · subst h5; simp at h3
        · have : l.length * n + n % l.length = n := by rw [h4] at h1; exact h1
          have : 1 ≤ l.length := by omega
          have h6 : n ≤ l.length * n := Nat.le_mul_of_pos_left n (by omega)
          omega
      · omega
    · omega
  · omega
/-- where each member's partitions begin -/
theorem startG_eq (n s : Nat) : ∀ i, startG n s i = i * (n / s) + min i (n % s)
  | 0 => by simp [startG]
  | i + 1 => by
    unfold startG
    rw [startG_eq n s i]
    unfold cntG
    rw [Nat.succ_mul]
    split <;> omega
theorem startG_all (n s : Nat) (hs : 0 < s) : startG n s s = n := by
  rw [startG_eq, Nat.min_eq_right (Nat.le_of_lt (Nat.mod_lt n hs))]
  exact Nat.div_add_mod n s
theorem startG_mono (n s : Nat) (i d : Nat) : startG n s i ≤ startG n s (i + d) := by
  induction d with
  | zero => exact Nat.le_refl _
  | succ d ih => exact Nat.le_trans ih (Nat.le_add_right _ _)
theorem startG_le (n s : Nat) (hs : 0 < s) (i : Nat) (hi : i ≤ s) : startG n s i ≤ n := by
  have := startG_mono n s i (s - i)
  rw [show i + (s - i) = s by omega, startG_all n s hs] at this
  exact this
theorem mem_numsG (a c : Nat) (p : Int) : p ∈ numsG a c ↔ (a : Int) ≤ p ∧ p < (a + c : Nat) := by
  unfold numsG
  rw [List.mem_map]
  constructor
  · rintro ⟨j, hj, rfl⟩
    have := List.mem_range.1 hj
    omega
  · rintro ⟨h1, h2⟩
    exact ⟨p.toNat - a, List.mem_range.2 (by omega), by omega⟩
/-- two members have no partition in common -/
theorem ofL_apart (l : List ByteArray) (hl : wrongL l = 0) (n : Nat) (x y : List UInt8) (hx : isIn l x = true) (hy : isIn l y = true) (p : Int) (h1 : p ∈ ofL l n x) (h2 : p ∈ ofL l n y) : x = y := by
  have hn := wrong_nodup hl
  obtain ⟨a1, a2⟩ := rk_lt l hn x ((isIn_srt l x).1 hx)
  obtain ⟨b1, b2⟩ := rk_lt l hn y ((isIn_srt l y).1 hy)
  unfold ofL at h1 h2
  rw [if_pos a1, mem_numsG] at h1
  rw [if_pos b1, mem_numsG] at h2
  rw [← a2, ← b2]
  congr 1
  generalize rkL l x = i at *
  generalize rkL l y = j at *
  have hs : ∀ i, startG n l.length (i + 1) = startG n l.length i + cntG n l.length i := fun i => rfl
  rcases Nat.lt_trichotomy i j with h | h | h
  · have := startG_mono n l.length (i + 1) (j - (i + 1))
    rw [show i + 1 + (j - (i + 1)) = j by omega] at this
    have := hs i
    omega
  · exact h
  · have := startG_mono n l.length (j + 1) (i - (j + 1))
    rw [show j + 1 + (i - (j + 1)) = i by omega] at this
    have := hs j
    omega
theorem ofL_range (l : List ByteArray) (n : Nat) (x : List UInt8) (p : Int) (h : p ∈ ofL l n x) : 0 ≤ p ∧ p < n := by
  unfold ofL at h
  rw [mem_numsG] at h
  generalize rkL l x = i at *
  split at h
  · rename_i hi
    have := startG_le n l.length (by omega) (i + 1) (by omega)
    have hs : startG n l.length (i + 1) = startG n l.length i + cntG n l.length i := rfl
    omega
  · omega
/-- each partition is someone's -/
theorem ofL_some (l : List ByteArray) (hl : wrongL l = 0) (h0 : 0 < l.length) (n : Nat) (p : Int) (h1 : 0 ≤ p) (h2 : p < n) : ∃ x, isIn l x = true ∧ p ∈ ofL l n x := by
  have hn := wrong_nodup hl
  have key : ∀ m, m ≤ l.length → p < startG n l.length m → ∃ i, i < m ∧ (startG n l.length i : Int) ≤ p ∧ p < startG n l.length (i + 1) := by
    intro m
    induction m with
    | zero => intro _ h; unfold startG at h; omega
    | succ m ih =>
      intro hm hp
      by_cases h : p < startG n l.length m
      · obtain ⟨i, hi, h3⟩ := ih (by omega) h
        exact ⟨i, by omega, h3⟩
      · exact ⟨m, by omega, by omega, hp⟩
  obtain ⟨i, hi, h3, h4⟩ := key l.length (Nat.le_refl _) (by rw [startG_all n _ h0]; exact h2)
  have hi' : i < (srt l).length := by rw [srt_length]; exact hi
  refine ⟨(srt l)[i], (isIn_srt l _).2 (List.getElem_mem _), ?_⟩
  unfold ofL
  rw [rk_srt l hn i hi', if_pos hi, mem_numsG]
  exact ⟨h3, h4⟩
theorem ofL_len (l : List ByteArray) (hl : wrongL l = 0) (n : Nat) (x : List UInt8) (hx : isIn l x = true) : n / l.length ≤ (ofL l n x).length ∧ (ofL l n x).length ≤ n / l.length + 1 := by
  obtain ⟨h1, _⟩ := rk_lt l (wrong_nodup hl) x ((isIn_srt l x).1 hx)
  unfold ofL
  rw [numsG_length, if_pos h1]
  unfold cntG
  split <;> omega
theorem numsG_nodup (a c : Nat) : (numsG a c).Nodup := by
  unfold numsG
  rw [List.Nodup, List.pairwise_map]
  exact List.nodup_range.imp (fun h e => h (by omega))
theorem ofL_nodup (l : List ByteArray) (n : Nat) (x : List UInt8) : (ofL l n x).Nodup := numsG_nodup _ _
/-! ### The order in which members are told changes nothing -/
theorem perm_facts {l m : List ByteArray} (h : l.Perm m) : wrongL l = wrongL m ∧ (∀ x, rkL l x = rkL m x) ∧ (∀ x, isIn l x = isIn m x) ∧ srt l = srt m := by
  have hm : (l.map (·.toList)).Perm (m.map (·.toList)) := h.map _
  refine ⟨?_, fun x => ?_, fun x => ?_, ?_⟩
  · unfold wrongL
    have e1 : l.all nameB = m.all nameB := by
      rw [Bool.eq_iff_iff, List.all_eq_true, List.all_eq_true]
      exact ⟨fun h1 x hx => h1 x (h.mem_iff.2 hx), fun h1 x hx => h1 x (h.mem_iff.1 hx)⟩
    rw [e1]
    simp only [hm.nodup_iff]
  · unfold rkL
    rw [hm.countP_eq]
  · unfold isIn
    rw [Bool.eq_iff_iff, List.contains_iff_mem, List.contains_iff_mem]
    exact hm.mem_iff
  · refine List.Perm.eq_of_pairwise (le := fun a b => a ≤ b) (fun a b _ _ h1 h2 => List.le_antisymm h1 h2) (srt_sorted l) (srt_sorted m) ?_
    exact (srt_perm l).trans (hm.trans (srt_perm m).symm)
theorem perm_ofL {l m : List ByteArray} (h : l.Perm m) (n : Nat) (x : List UInt8) : ofL l n x = ofL m n x := by
  unfold ofL
  rw [(perm_facts h).2.1 x, h.length_eq]
theorem perm_errOf {l m : List ByteArray} (h : l.Perm m) (n : Int) (x : List UInt8) : errOf l n x = errOf m n x := by
  unfold errOf errA
  rw [(perm_facts h).1, (perm_facts h).2.2.1 x]
theorem turn_perm (l : List ByteArray) (n : Nat) : l.Perm (l.drop n ++ l.take n) := by
  conv => lhs; rw [← List.take_append_drop n l]
  exact List.perm_append_comm
end Go.Proofs.Ytohhlkabejangaa.As

namespace Go.Proofs.Ytohhlkabejangaa.As
open Go.RowKit Go.Maps Go.Sort Go.ChangeShapes Go.Proofs.YtohhlkabejangaaW.PrintWords Go.Proofs.YtohhlkabejangaaW.PrintLast Go.Proofs.YtohhlkabejangaaW.PrintMore Go.Proofs.Ytohhlkabejangaa.PAs
set_option linter.unusedVariables false
set_option linter.unusedSimpArgs false
/-! ### What the printed functions compute -/
def mkB (x : List UInt8) : ByteArray := ⟨x.toArray⟩
theorem mkB_toList (x : List UInt8) : (mkB x).toList = x := by rw [str_toList]; rfl
theorem toList_mkB (s : ByteArray) : mkB s.toList = s := by
  unfold mkB
  rw [str_toList]
theorem toList_inj {a b : ByteArray} (h : a.toList = b.toList) : a = b := by rw [← toList_mkB a, h, toList_mkB]
theorem enc_mkB (x : List UInt8) : Value.string (mkB x) = encStr x := rfl
theorem str_R {W : World} {base : Nat} {v : Value} {zs : List (List UInt8)} (h : Kd.R kStr 9 W base (fun _ => True) v zs) : Kd.R Kd.string 9 W base (fun _ => True) v (zs.map mkB) := by
  refine Kd.R_of_own (enc := Value.string) ?_ (fun _ _ => trivial)
  have h1 := Kd.own_of_R h
  rw [List.length_map]
  have e : encs Value.string (zs.map mkB) = encs encStr zs := by
    unfold encs
    rw [List.map_map]
    rfl
  rw [e]
  exact h1
theorem rd_int (l : List Int) (i : Nat) (hi : i < l.length) : Go.Proofs.YtohhlkabejangaaW.PrintWords.rd l (i : Int) = l[i] := by
  unfold Go.Proofs.YtohhlkabejangaaW.PrintWords.rd
  rw [Int.toNat_natCast, List.getD_eq_getElem?_getD, List.getElem?_eq_getElem hi]
  rfl
theorem ints_loop (xs : List Int) (hl : xs.length ≤ 1000) : ∀ (d i k : Nat), i + d = xs.length → d < k → weighlockplain_Ints.l0 k xs xs (xs.length : Int) (i : Int) = some true
  | 0, i, k, hi, hk => by
    obtain ⟨k, rfl⟩ : ∃ k', k = k' + 1 := ⟨k - 1, by omega⟩
    rw [weighlockplain_Ints.l0, if_neg (by omega)]
  | d + 1, i, k, hi, hk => by
    obtain ⟨k, rfl⟩ : ∃ k', k = k' + 1 := ⟨k - 1, by omega⟩
    rw [weighlockplain_Ints.l0, if_pos (by omega), if_pos (by omega), if_pos (by omega)]
    have := ints_loop xs hl d (i + 1) k (by omega) (by omega)
    rw [show ((i + 1 : Nat) : Int) = wrap64 ((i : Int) + 1) from (w64 _ (by omega) (by omega)).symm] at this
    rw [if_pos (by omega), if_pos rfl]
    exact this
theorem ints_calls (A B : Option Addr) (c d : Nat) (xs : List Int) (hl : xs.length ≤ 1000) (hc : xs.length ≤ c) (hd : xs.length ≤ d) (w : World) (hA : Kd.C (Kd.int .i64) w A xs.length xs) (hB : Kd.C (Kd.int .i64) w B xs.length xs) :
    Calls Try.prog 23 #[.slice A xs.length c, .slice B xs.length d] w fun e w' => e = .returned (.bool true) ∧ Below w.heap.size w w' := by
  have h : weighlockplain_Ints.f 1001 xs xs = some true := by
    unfold weighlockplain_Ints.f
    rw [if_pos rfl]
    exact ints_loop xs hl xs.length 0 1001 (by omega) (by omega)
  refine (weighlockplain_Ints.calls 1001 A c xs B d xs true w hA hc hB hd h).mono ?_
  rintro e w' ⟨rfl, hd⟩
  exact ⟨rfl, hd.below⟩
theorem texts_loop (xs : List ByteArray) (hl : xs.length ≤ 1000) : ∀ (d i k : Nat), i + d = xs.length → d < k → weighlockplain_Texts.l0 k xs xs (xs.length : Int) (i : Int) = some true
  | 0, i, k, hi, hk => by
    obtain ⟨k, rfl⟩ : ∃ k', k = k' + 1 := ⟨k - 1, by omega⟩
    rw [weighlockplain_Texts.l0, if_neg (by omega)]
  | d + 1, i, k, hi, hk => by
    obtain ⟨k, rfl⟩ : ∃ k', k = k' + 1 := ⟨k - 1, by omega⟩
    rw [weighlockplain_Texts.l0, if_pos (by omega), if_pos (by omega), if_pos (by omega)]
    have := texts_loop xs hl d (i + 1) k (by omega) (by omega)
    rw [show ((i + 1 : Nat) : Int) = wrap64 ((i : Int) + 1) from (w64 _ (by omega) (by omega)).symm] at this
    rw [if_pos (by omega), if_pos rfl]
    exact this
theorem texts_calls (A B : Option Addr) (c d : Nat) (xs : List ByteArray) (hl : xs.length ≤ 1000) (hc : xs.length ≤ c) (hd : xs.length ≤ d) (w : World) (hA : Kd.C Kd.string w A xs.length xs) (hB : Kd.C Kd.string w B xs.length xs) :
    Calls Try.prog 26 #[.slice A xs.length c, .slice B xs.length d] w fun e w' => e = .returned (.bool true) ∧ Below w.heap.size w w' := by
  have h : weighlockplain_Texts.f 1001 xs xs = some true := by
    unfold weighlockplain_Texts.f
    rw [if_pos rfl]
    exact texts_loop xs hl xs.length 0 1001 (by omega) (by omega)
  refine (weighlockplain_Texts.calls 1001 A c xs B d xs true w hA hc hB hd h).mono ?_
  rintro e w' ⟨rfl, hd⟩
  exact ⟨rfl, hd.below⟩
def largeB (l : List ByteArray) : Bool := decide (20 < l.length) || l.any (fun s => decide (100 < s.size))
theorem large_loop (l : List ByteArray) (hl : l.length ≤ 20) : ∀ (d i k : Nat), i + d = l.length → d < k → weighlocklaw28_large.l0 k l (l.length : Int) (i : Int) = some ((l.drop i).any (fun s => decide (100 < s.size)))
  | 0, i, k, hi, hk => by
    obtain ⟨k, rfl⟩ : ∃ k', k = k' + 1 := ⟨k - 1, by omega⟩
    rw [weighlocklaw28_large.l0, if_neg (by omega), List.drop_of_length_le (by omega)]
    rfl
  | d + 1, i, k, hi, hk => by
    obtain ⟨k, rfl⟩ : ∃ k', k = k' + 1 := ⟨k - 1, by omega⟩
    have hin : i < l.length := by omega
    rw [weighlocklaw28_large.l0, if_pos (by omega), if_pos (by omega), if_pos (by omega), rd_at l i hin, List.drop_eq_getElem_cons hin, List.any_cons]
    by_cases h : ((l[i].size : Int) > 100)
    · rw [if_pos h, decide_eq_true (show 100 < l[i].size by omega), Bool.true_or]
    · rw [if_neg h, decide_eq_false (show ¬ 100 < l[i].size by omega), Bool.false_or, w64 _ (by omega) (by omega)]
      exact large_loop l hl d (i + 1) k (by omega) (by omega)
theorem large_calls (A : Option Addr) (c : Nat) (l : List ByteArray) (w : World) (hA : Kd.C Kd.string w A l.length l) (hc : l.length ≤ c) :
    Calls Try.prog 16 #[.slice A l.length c] w fun e w' => e = .returned (.bool (largeB l)) ∧ Below w.heap.size w w' := by
  have h : weighlocklaw28_large.f 100 l = some (largeB l) := by
    unfold weighlocklaw28_large.f largeB
    by_cases h : (l.length : Int) > 20
    · rw [if_pos h, decide_eq_true (show 20 < l.length by omega), Bool.true_or]
    · rw [if_neg h, decide_eq_false (show ¬ 20 < l.length by omega), Bool.false_or]
      exact large_loop l (by omega) l.length 0 100 (by omega) (by omega)
  refine (weighlocklaw28_large.calls 100 A c l _ w hA hc h).mono ?_
  rintro e w' ⟨rfl, hd⟩
  exact ⟨rfl, hd.below⟩
theorem large_no {l : List ByteArray} (h : largeB l = false) : l.length ≤ 20 ∧ ∀ s ∈ l, s.size ≤ 100 := by
  unfold largeB at h
  rw [Bool.or_eq_false_iff, decide_eq_false_iff_not, List.any_eq_false] at h
  exact ⟨by omega, fun s hs => by have := h.2 s hs; simp at this; omega⟩
theorem rank_loop (l : List ByteArray) (m : ByteArray) (hl : l.length ≤ 1000) : ∀ (d i k n : Nat), i + d = l.length → d < k → n ≤ i → weighlockref28_Rank.l0 k m (n : Int) l (l.length : Int) (i : Int) = some ((n + rkL (l.drop i) m.toList : Nat) : Int)
  | 0, i, k, n, hi, hk, hn => by
    obtain ⟨k, rfl⟩ : ∃ k', k = k' + 1 := ⟨k - 1, by omega⟩
    rw [weighlockref28_Rank.l0, if_neg (by omega), List.drop_of_length_le (by omega)]
    rfl
  | d + 1, i, k, n, hi, hk, hn => by
    obtain ⟨k, rfl⟩ : ∃ k', k = k' + 1 := ⟨k - 1, by omega⟩
    have hin : i < l.length := by omega
    have e1 : ∀ x, rkL (l.drop i) x = rkL (l.drop (i + 1)) x + if l[i].toList < x then 1 else 0 := fun x => by
      unfold rkL
      rw [List.drop_eq_getElem_cons hin, List.map_cons, List.countP_cons]
      simp only [decide_eq_true_eq]
    rw [weighlockref28_Rank.l0, if_pos (by omega), if_pos (by omega), if_pos (by omega), rd_at l i hin, e1]
    have hb : Op.bytesLess l[i].toList m.toList = decide (l[i].toList < m.toList) := bytesLess_eq _ _
    by_cases h : l[i].toList < m.toList
    · rw [if_pos (by rw [hb]; exact decide_eq_true h), if_pos h, w64 _ (by omega) (by omega), w64 _ (by omega) (by omega)]
      have := rank_loop l m hl d (i + 1) k (n + 1) (by omega) (by omega) (by omega)
      rw [show n + 1 + rkL (l.drop (i + 1)) m.toList = n + (rkL (l.drop (i + 1)) m.toList + 1) by omega] at this
      exact this
    · rw [if_neg (by rw [hb, decide_eq_false h]; decide), if_neg h, w64 _ (by omega) (by omega)]
      exact rank_loop l m hl d (i + 1) k n (by omega) (by omega) (by omega)
theorem rank_f (l : List ByteArray) (m : ByteArray) (hl : l.length ≤ 1000) (k : Nat) (hk : l.length < k) : weighlockref28_Rank.f k l m = some (rkL l m.toList : Int) := by
  unfold weighlockref28_Rank.f
  have := rank_loop l m hl l.length 0 k 0 (by omega) hk (by omega)
  rw [Nat.zero_add] at this
  exact this
theorem rkL_le (l : List ByteArray) (x : List UInt8) : rkL l x ≤ l.length := by
  unfold rkL
  have := List.countP_le_length (p := fun y => decide (y < x)) (l := l.map (·.toList))
  rwa [List.length_map] at this
theorem rank_calls (A : Option Addr) (c : Nat) (l : List ByteArray) (m : ByteArray) (hl : l.length ≤ 1000) (hc : l.length ≤ c) (w : World) (hA : Kd.C Kd.string w A l.length l) :
    Calls Try.prog 22 #[.slice A l.length c, .string m] w fun e w' => e = .returned (.int .i64 (rkL l m.toList)) ∧ Below w.heap.size w w' := by
  refine (weighlockref28_Rank.calls 1001 A c l m _ w hA hc (rank_f l m hl 1001 (by omega))).mono ?_
  rintro e w' ⟨rfl, hd⟩
  exact ⟨rfl, hd.below⟩
theorem cnt_int (n s i : Nat) (hs : 0 < s) (hn : n ≤ 1000) (hs2 : s ≤ 1000) : (if (i : Int) < Int.tmod (n : Int) (s : Int) then wrap64 (wrap64 (Int.tdiv (n : Int) (s : Int)) + 1) else wrap64 (Int.tdiv (n : Int) (s : Int))) = (cntG n s i : Int) := by
  have h1 : Int.tmod (n : Int) (s : Int) = ((n % s : Nat) : Int) := rfl
  have h2 : Int.tdiv (n : Int) (s : Int) = ((n / s : Nat) : Int) := rfl
  have h3 : n / s ≤ n := Nat.div_le_self _ _
  rw [h1, h2]
  unfold cntG
  generalize n / s = q at *
  generalize n % s = r at *
  rw [w64 (q : Int) (by omega) (by omega), w64 _ (by omega) (by omega)]
  by_cases h : i < r
  · rw [if_pos (by omega), if_pos h]; omega
  · rw [if_neg (by omega), if_neg h]; omega
theorem of_loop1 (a : Nat) (ha : a ≤ 100000) (c : Nat) (hc : c ≤ 100000) : ∀ (d i k : Nat), i + d = c → d < k → weighlockref28_Of.l1 k (a : Int) (numsG a i) (c : Int) (i : Int) = some (numsG a c)
  | 0, i, k, hi, hk => by
    obtain ⟨k, rfl⟩ : ∃ k', k = k' + 1 := ⟨k - 1, by omega⟩
    rw [weighlockref28_Of.l1, if_neg (by omega)]
    rw [show i = c by omega]
  | d + 1, i, k, hi, hk => by
    obtain ⟨k, rfl⟩ : ∃ k', k = k' + 1 := ⟨k - 1, by omega⟩
    rw [weighlockref28_Of.l1, if_pos (by omega), if_pos (by rw [numsG_length]; omega), w64 _ (by omega) (by omega), w64 _ (by omega) (by omega)]
    have := of_loop1 a ha c hc d (i + 1) k (by omega) (by omega)
    rw [numsG_succ] at this
    exact this
theorem startG_small (n s i : Nat) (hs : 0 < s) (hi : i ≤ s) (hn : n ≤ 1000) : startG n s i ≤ 1000 := Nat.le_trans (startG_le n s hs i hi) hn
theorem cntG_small (n s i : Nat) : cntG n s i ≤ n + 1 := by
  unfold cntG
  have := Nat.div_le_self n s
  split <;> omega
theorem of_loop0 (l : List ByteArray) (n r : Nat) (hn : n ≤ 1000) (hl : l.length ≤ 1000) (hr : r ≤ l.length) : ∀ (d i k z : Nat), i + d = l.length → 2 * d + 2000 < k → (z = if r < i then cntG n l.length r else 0) →
    weighlockref28_Of.l0 k l (n : Int) (r : Int) (startG n l.length (min i r)) (z : Int) (l.length : Int) (i : Int) = some (numsG (startG n l.length r) (if r < l.length then cntG n l.length r else 0))
  | 0, i, k, z, hi, hk, hz => by
    obtain ⟨k, rfl⟩ : ∃ k', k = k' + 1 := ⟨k - 1, by omega⟩
    rw [weighlockref28_Of.l0, if_neg (by omega)]
    have hi' : i = l.length := by omega
    subst hi'
    rw [Nat.min_eq_right hr, ← hz]
    have hst : startG n l.length r ≤ 100000 := by
      rcases Nat.eq_zero_or_pos l.length with h0 | h0
      · have : r = 0 := by omega
        subst this; unfold startG; omega
      · have := startG_small n l.length r h0 hr hn; omega
    have hzz : z ≤ 1001 := by rw [hz]; have := cntG_small n l.length r; split <;> omega
    exact of_loop1 _ hst z (by omega) z 0 k (by omega) (by omega)
  | d + 1, i, k, z, hi, hk, hz => by
    obtain ⟨k, rfl⟩ : ∃ k', k = k' + 1 + 1 := ⟨k - 2, by omega⟩
    have hin : i < l.length := by omega
    have h0 : 0 < l.length := by omega
    have hcs := cntG_small n l.length i
    have hst := startG_small n l.length i h0 (by omega) hn
    have hc := cnt_int n l.length i h0 hn hl
    have key : ∀ v : Int, v = (cntG n l.length i : Int) → weighlockref28_Of.j1 (k + 1) l (n : Int) (r : Int) (startG n l.length (min i r)) (z : Int) (i : Int) v (l.length : Int) (i : Int) = some (numsG (startG n l.length r) (if r < l.length then cntG n l.length r else 0)) := by
      rintro v rfl
      rw [weighlockref28_Of.j1]
      have ih := fun z' hz' => of_loop0 l n r hn hl hr d (i + 1) k z' (by omega) (by omega) hz'
      by_cases h1 : i < r
      · rw [if_pos (by omega), if_neg (by omega), Nat.min_eq_left (by omega), w64 _ (by omega) (by omega), w64 _ (by omega) (by omega)]
        have := ih z (by rw [hz, if_neg (by omega), if_neg (by omega)])
        rw [Nat.min_eq_left (show i + 1 ≤ r by omega)] at this
        exact this
      · rw [if_neg (by omega), w64 _ (by omega) (by omega)]
        by_cases h2 : i = r
        · subst h2
          rw [if_pos rfl, Nat.min_self]
          have := ih (cntG n l.length i) (by rw [if_pos (by omega)])
          rw [Nat.min_eq_right (show i ≤ i + 1 by omega)] at this
          exact this
        · rw [if_neg (by omega), Nat.min_eq_right (by omega)]
          have := ih z (by rw [hz, if_pos (by omega), if_pos (by omega)])
          rw [Nat.min_eq_right (show r ≤ i + 1 by omega)] at this
          exact this
    rw [weighlockref28_Of.l0, if_pos (by omega), if_neg (by omega)]
    split
    · rename_i h
      rw [if_pos h] at hc
      exact key _ hc
    · rename_i h
      rw [if_neg h] at hc
      exact key _ hc
theorem of_f (l : List ByteArray) (n : Nat) (m : ByteArray) (hl : l.length ≤ 1000) (hn : n ≤ 1000) : weighlockref28_Of.f 5000 l (n : Int) m = some (ofL l n m.toList) := by
  unfold weighlockref28_Of.f
  rw [rank_f l m hl 5000 (by omega), Option.bind_some]
  have := of_loop0 l n (rkL l m.toList) hn hl (rkL_le l _) l.length 0 5000 0 (by omega) (by omega) (by rw [if_neg (by omega)])
  rw [Nat.zero_min] at this
  exact this
theorem rof_calls (A : Option Addr) (c : Nat) (l : List ByteArray) (n : Nat) (m : ByteArray) (hl : l.length ≤ 1000) (hn : n ≤ 1000) (hc : l.length ≤ c) (w : World) (hA : Kd.C Kd.string w A l.length l) :
    Calls Try.prog 24 #[.slice A l.length c, .int .i64 (n : Int), .string m] w fun e w' => ∃ v, e = .returned v ∧ Kd.R (Kd.int .i64) 3 w' w.heap.size (fun _ => True) v (ofL l n m.toList) ∧ Below w.heap.size w w' := by
  exact weighlockref28_Of.calls 5000 A c l n m _ w hA hc (of_f l n m hl hn)
/-! the reference's Wrong -/
theorem wrong_loop2 (l : List ByteArray) (hl : l.length ≤ 1000) (i : Nat) (hi : i < l.length) : ∀ (d j k : Nat), j + d = i → d < k → (∀ a, a < j → ∀ h : a < l.length, l[i] ≠ l[a]) →
    (∀ a, ∀ h : a < i, l[i] ≠ l[a]) ∧ weighlockref28_Wrong.l2 k l l[i] l (l.length : Int) (i : Int) (l.take i) (i : Int) (j : Int) = weighlockref28_Wrong.l1 (k - d - 1) l l (l.length : Int) ((i + 1 : Nat) : Int) ∨ (∃ a, ∃ h : a < i, l[i] = l[a]) ∧ weighlockref28_Wrong.l2 k l l[i] l (l.length : Int) (i : Int) (l.take i) (i : Int) (j : Int) = some 8
  | 0, j, k, hj, hk, hd => by
    obtain ⟨k, rfl⟩ : ∃ k', k = k' + 1 := ⟨k - 1, by omega⟩
    refine .inl ⟨fun a h => hd a (by omega) (by omega), ?_⟩
    rw [weighlockref28_Wrong.l2, if_neg (by omega), w64 _ (by omega) (by omega)]
    rfl
  | d + 1, j, k, hj, hk, hd => by
    obtain ⟨k, rfl⟩ : ∃ k', k = k' + 1 := ⟨k - 1, by omega⟩
    have hjl : j < (l.take i).length := by rw [List.length_take]; omega
    rw [weighlockref28_Wrong.l2, if_pos (by omega), if_pos (by omega), if_pos (by omega), rd_at (l.take i) j hjl, List.getElem_take]
    by_cases e : l[i].toList = l[j].toList
    · rw [if_pos e]
      exact .inr ⟨⟨j, by omega, toList_inj e⟩, rfl⟩
    · rw [if_neg e, w64 _ (by omega) (by omega)]
      have := wrong_loop2 l hl i hi d (j + 1) k (by omega) (by omega) (fun a ha hal => by
        rcases Nat.lt_or_ge a j with h | h
        · exact hd a h hal
        · obtain rfl : a = j := by omega
          exact fun he => e (by rw [he]))
      rw [show k + 1 - (d + 1) - 1 = k - d - 1 by omega]
      exact this
theorem wrong_loop1 (l : List ByteArray) (hl : l.length ≤ 1000) : ∀ (d i k : Nat), i + d = l.length → 2000 * (d + 1) < k → (l.take i).Nodup → weighlockref28_Wrong.l1 k l l (l.length : Int) (i : Int) = some (if l.Nodup then 0 else 8)
  | 0, i, k, hi, hk, hn => by
    obtain ⟨k, rfl⟩ : ∃ k', k = k' + 1 := ⟨k - 1, by omega⟩
    rw [weighlockref28_Wrong.l1, if_neg (by omega)]
    rw [List.take_of_length_le (by omega)] at hn
    rw [if_pos hn]
  | d + 1, i, k, hi, hk, hn => by
    obtain ⟨k, rfl⟩ : ∃ k', k = k' + 1 := ⟨k - 1, by omega⟩
    have hin : i < l.length := by omega
    have e1 : ((l.take (i : Int).toNat).length : Int) = (i : Int) := by rw [Int.toNat_natCast, List.length_take]; omega
    rw [weighlockref28_Wrong.l1, if_pos (by omega), if_pos (by omega), if_pos (by omega), if_pos (by omega), rd_at l i hin, e1, Int.toNat_natCast]
    rcases wrong_loop2 l hl i hin i 0 k (by omega) (by omega) (fun a ha => absurd ha (by omega)) with ⟨h1, h2⟩ | ⟨⟨a, ha, h1⟩, h2⟩
    · have h2' : weighlockref28_Wrong.l2 k l l[i] l (l.length : Int) (i : Int) (l.take i) (i : Int) 0 = _ := h2
      rw [h2']
      refine wrong_loop1 l hl d (i + 1) (k - i - 1) (by omega) (by omega) ?_
      rw [List.take_add_one, List.getElem?_eq_getElem hin]
      refine List.nodup_append.2 ⟨hn, by simp, ?_⟩
      intro x hx y hy e
      have hy' : y = l[i] := by simpa using hy
      obtain ⟨a, ha, he⟩ := List.getElem_of_mem hx
      rw [List.length_take] at ha
      rw [List.getElem_take] at he
      exact h1 a (by omega) (by rw [he, e, hy'])
    · have h2' : weighlockref28_Wrong.l2 k l l[i] l (l.length : Int) (i : Int) (l.take i) (i : Int) 0 = _ := h2
      rw [h2', if_neg]
      intro hnd
      rw [List.Nodup, List.pairwise_iff_getElem] at hnd
      exact hnd a i (by omega) hin ha h1.symm
theorem wrong_loop0 (l : List ByteArray) (hl : l.length ≤ 1000) (hz : ∀ s ∈ l, s.size ≤ 1000) : ∀ (d i k : Nat), i + d = l.length → 2000 * (l.length + 2) + d < k → (l.take i).all nameB = true →
    weighlockref28_Wrong.l0 k l l (l.length : Int) (i : Int) = some (if l.all nameB = true then (if l.Nodup then 0 else 8) else 1)
  | 0, i, k, hi, hk, hn => by
    obtain ⟨k, rfl⟩ : ∃ k', k = k' + 1 := ⟨k - 1, by omega⟩
    rw [weighlockref28_Wrong.l0, if_neg (by omega)]
    rw [List.take_of_length_le (by omega)] at hn
    rw [if_pos hn]
    exact wrong_loop1 l hl l.length 0 k (by omega) (by omega) (by simp)
  | d + 1, i, k, hi, hk, hn => by
    obtain ⟨k, rfl⟩ : ∃ k', k = k' + 1 := ⟨k - 1, by omega⟩
    have hin : i < l.length := by omega
    have hsz := hz l[i] (List.getElem_mem hin)
    rw [weighlockref28_Wrong.l0, if_pos (by omega), if_pos (by omega), if_pos (by omega), rd_at l i hin, ref_name l[i] (by omega) k (by omega), Option.bind_some]
    by_cases h : nameB l[i] = true
    · rw [if_pos h, w64 _ (by omega) (by omega)]
      refine wrong_loop0 l hl hz d (i + 1) k (by omega) (by omega) ?_
      rw [List.take_add_one, List.getElem?_eq_getElem hin, List.all_append, hn]
      simp [h]
    · rw [if_neg h, if_neg]
      intro hall
      exact h (List.all_eq_true.1 hall _ (List.getElem_mem hin))
theorem nodup_str (l : List ByteArray) : (l.map (·.toList)).Nodup ↔ l.Nodup := by
  rw [List.Nodup, List.pairwise_map]
  constructor
  · exact fun h => h.imp (fun h e => h (by rw [e]))
  · exact fun h => h.imp (fun h e => h (toList_inj e))
theorem rwrong_calls (A : Option Addr) (c : Nat) (l : List ByteArray) (hl : l.length ≤ 1000) (hz : ∀ s ∈ l, s.size ≤ 1000) (hc : l.length ≤ c) (w : World) (hA : Kd.C Kd.string w A l.length l) :
    Calls Try.prog 21 #[.slice A l.length c] w fun e w' => e = .returned (.int .i64 (wrongL l)) ∧ Below w.heap.size w w' := by
  have h : weighlockref28_Wrong.f 10000000 l = some (wrongL l) := by
    unfold weighlockref28_Wrong.f
    have := wrong_loop0 l hl hz l.length 0 10000000 (by omega) (by omega) rfl
    rw [show ((0 : Nat) : Int) = 0 from rfl] at this
    rw [this]
    unfold wrongL
    simp only [nodup_str]
  refine (weighlockref28_Wrong.calls 10000000 A c l _ w hA hc h).mono ?_
  rintro e w' ⟨rfl, hd⟩
  exact ⟨rfl, hd.below⟩
end Go.Proofs.Ytohhlkabejangaa.As

namespace Go.Proofs.Ytohhlkabejangaa.As
open Go.RowKit Go.Maps Go.Sort Go.ChangeShapes Go.Proofs.YtohhlkabejangaaW.PrintWords Go.Proofs.YtohhlkabejangaaW.PrintLast Go.Proofs.YtohhlkabejangaaW.PrintMore Go.Proofs.Ytohhlkabejangaa.PAs
set_option linter.unusedVariables false
set_option linter.unusedSimpArgs false
theorem ints_R {W : World} {B : Nat} {v : Value} {zs : List Int} (h : W.ownsInts B 3 .i64 v zs) : Kd.R (Kd.int .i64) 3 W B (fun _ => True) v zs :=
  Kd.R_of_own (enc := Value.int .i64) (h1 := fun _ => rfl) h.1 (fun _ _ => trivial)
theorem dz_row {v : Value} {zs xs : List Int} {w : World} {base e : Nat} (h : w.ownsInts base e .i64 v zs) (hd : dz xs = rowDatum .i64 v zs) : zs = xs := row_eq h hd.symm
/-- Of: a member's partitions, or why it has none -/
theorem off_calls (A : Option Addr) (c : Nat) (l : List ByteArray) (n : Int) (s : ByteArray) (hs : s.size ≤ 1000) (w : World) (hA : Kd.C Kd.string w A l.length l) (hl : l.length ≤ 1000) (hz : ∀ s ∈ l, s.size ≤ 1000) :
    Calls Try.prog 19 #[.slice A l.length c, .int .i64 n, .string s] w fun e w' => ∃ v, e = .returned (.tuple #[v, .int .i64 (errOf l n s.toList)]) ∧ Kd.R (Kd.int .i64) 3 w' w.heap.size (fun _ => True) v (if errOf l n s.toList = 0 then ofL l n.toNat s.toList else []) ∧ Below w.heap.size w w' := by
  by_cases h : errA l n = 0
  · obtain ⟨hw, h0, h4⟩ := errA_zero h
    obtain ⟨m, rfl⟩ : ∃ m : Nat, n = m := ⟨n.toNat, by omega⟩
    refine (of_calls A c l m s hs w hA hl hz hw (by omega)).mono ?_
    rintro e w' ⟨v, rfl, ⟨zs, hoi, h1, h2⟩, hb⟩
    have e1 : ofZ (datG (rowsG m (srt l) l.length)) s = errOf l m s.toList := by
      unfold ofZ errOf
      rw [datG_has, if_pos h]
    rw [e1]
    rw [datG_has] at h1 h2
    refine ⟨v, rfl, ?_, hb⟩
    unfold errOf
    rw [if_pos h]
    cases hin : isIn l s.toList with
    | true =>
      rw [if_pos rfl, if_pos rfl, Int.toNat_natCast]
      have := h1 hin
      rw [datG_at l hw m s.toList hin] at this
      rw [← dz_row hoi this]
      exact ints_R hoi
    | false =>
      obtain ⟨rfl, rfl⟩ := h2 hin
      rw [if_neg (by decide)]
      exact Kd.R_nil _ _ _ _ _
  · obtain ⟨h1, h2⟩ := errA_bad h
    refine (of_bad A c l n (errA l n) s w hA hl hz h1 h2).mono ?_
    rintro e w' ⟨rfl, hb⟩
    have e1 : errOf l n s.toList = errA l n := by
      unfold errOf
      rw [if_neg h]
    rw [e1, if_neg h]
    exact ⟨_, rfl, Kd.R_nil _ _ _ _ _, hb⟩
theorem some_row (w : World) (zs : List Int) (hl : zs.length ≤ 1000) (hz : ∀ z ∈ zs, -9223372036854775808 ≤ z ∧ z ≤ 9223372036854775807) : ∃ (W : World) (v : Value), rowDatum (H := Unit) .i64 v zs = dz zs ∧ W.ownsInts 0 3 .i64 v zs := by
  by_cases h : zs = []
  · subst h
    exact ⟨w, .slice none 0 0, rfl, World.ownsInts_nil _ _ _ _⟩
  · refine ⟨w.alloc (.cells (zs.map (Value.int .i64)).toArray 3), .slice (some ⟨w.heap.size, 0, none⟩) zs.length zs.length, ?_, ⟨⟨by simp, .inr ⟨w.heap.size, zs.length, _, rfl, Nat.zero_le _, blk_new w _, Nat.le_refl _, by unfold maxLen; omega, by simp, ?_⟩⟩, fun z hz' => WalkArith.wf_i64 (hz z hz')⟩⟩
    · unfold dz
      rw [if_neg h]
      rfl
    · rw [List.take_of_length_le (by simp)]
/-- Owner: who has a partition -/
def OwnP (l : List ByteArray) (n : Nat) (p : Int) (s : ByteArray) (z : Int) : Prop :=
  (z = 0 ∧ isIn l s.toList = true ∧ p ∈ ofL l n s.toList) ∨ (z = 6 ∧ s = ⟨#[]⟩ ∧ ∀ x, isIn l x = true → p ∉ ofL l n x)
theorem ownerf_calls (A : Option Addr) (c : Nat) (l : List ByteArray) (n : Nat) (p : Int) (w : World) (hA : Kd.C Kd.string w A l.length l) (hl : l.length ≤ 1000) (hz : ∀ s ∈ l, s.size ≤ 1000) (hw : wrongL l = 0) (hn : n ≤ 4) :
    Calls Try.prog 25 #[.slice A l.length c, .int .i64 (n : Int), .int .i64 p] w fun e w' => ∃ s z, e = .returned (.tuple #[.string s, .int .i64 z]) ∧ OwnP l n p s z ∧ Below w.heap.size w w' := by
  have key : ∀ x v zs W B, World.ownsInts W B 3 .i64 v zs → isIn l x = true → (datG (rowsG n (srt l) l.length)).atKey (.string x) .nil = rowDatum .i64 v zs → zs = ofL l n x := by
    intro x v zs W B h1 h2 h3
    rw [datG_at l hw n x h2] at h3
    exact dz_row h1 h3
  have atno : ∀ x, isIn l x = false → (datG (rowsG n (srt l) l.length)).atKey (.string x) .nil = .nil := by
    intro x hx
    refine atG_none _ x (fun y hy e => ?_)
    have := datG_has l n x
    rw [hx, hasG, List.any_eq_false] at this
    exact this y hy (decide_eq_true e)
  refine (owner_calls A c l n p w hA hl hz hw hn (fun x v zs W B h1 h2 => ?_)).mono ?_
  · cases hx : isIn l x with
    | true =>
      rw [key x v zs W B h1 hx h2]
      have := ofL_none l n x
      omega
    | false =>
      rw [atno x hx] at h2
      have : zs = [] := dz_row h1 (xs := []) (by rw [← h2]; rfl)
      rw [this]
      decide
  · rintro e w' ⟨s, z, rfl, hP, hb⟩
    refine ⟨s, z, rfl, ?_, hb⟩
    rcases hP with ⟨rfl, v, zs, W, B, h1, h2, h3, h4⟩ | ⟨rfl, rfl, h1⟩
    · rw [datG_has] at h2
      refine .inl ⟨rfl, h2, ?_⟩
      rw [← key _ v zs W B h1 h2 h3]
      exact h4
    · refine .inr ⟨rfl, rfl, fun x hx hp => ?_⟩
      have hat := datG_at l hw n x hx
      obtain ⟨W, v, hv1, hoi⟩ := some_row w (ofL l n x) (by have := ofL_none l n x; omega) (fun z hz => by have := ofL_range l n x z hz; omega)
      exact h1 x v _ (by rw [datG_has]; exact hx) rfl (by rw [hat, hv1]) ⟨W, 0, hoi⟩ hp
end Go.Proofs.Ytohhlkabejangaa.As

namespace Go.Proofs.Ytohhlkabejangaa.As
open Go.RowKit Go.Maps Go.Sort Go.ChangeShapes Go.Proofs.YtohhlkabejangaaW.PrintWords Go.Proofs.YtohhlkabejangaaW.PrintLast Go.Proofs.YtohhlkabejangaaW.PrintMore Go.Proofs.Ytohhlkabejangaa.PAs
set_option linter.unusedVariables false
set_option linter.unusedSimpArgs false
/-- the map of members and their partitions -/
def Grp (w : World) (b q : Nat) (l : List ByteArray) (n : Nat) : Prop := w.ownsGroups Try.prog 9 (b + 1) 3 .i64 b q (datG (rowsG n (srt l) l.length))
theorem Grp.later {w w' : World} {b q : Nat} {l : List ByteArray} {n : Nat} (h : Grp w b q l n) (hb : Below w.heap.size w w') : Grp w' b q l n :=
  World.ownsGroups.kept (row := none) (show w.ownsGroups _ _ _ _ _ _ _ _ from h) ⟨hb.os, hb.tape, hb.output, hb.size, fun i hi _ => hb.block i hi⟩ (by simp) (fun es clock _ x _ => by
    cases x.val.ownBlock with
    | none => exact .inl rfl
    | some k => exact .inr (by simp))
theorem key_B (x : ByteArray) (h : x.size ≤ 1000) : keyOf Try.prog 9 (.string x) = some (.string x.toList) := by
  have := key_str x.toList (by rw [str_toList, data_length]; exact h)
  rwa [enc_str] at this
theorem Grp.at' {w : World} {b q : Nat} {l : List ByteArray} {n : Nat} (h : Grp w b q l n) (hq : q ≤ 6000) (hw : wrongL l = 0) (x : ByteArray) (hx : x.size ≤ 1000) (hin : isIn l x.toList = true) :
    ∃ A c, (Instr.lookup 25 (.map (some b)) (.string x) false).run Try.prog w = .ok (.slice A (ofL l n x.toList).length c) w ∧ (ofL l n x.toList).length ≤ c ∧ Kd.C (Kd.int .i64) w A (ofL l n x.toList).length (ofL l n x.toList) := by
  obtain ⟨v, zs, hrun, hat, hoi, _, _⟩ := World.ownsGroups.at (show w.ownsGroups _ _ _ _ _ _ _ _ from h) str_law Try.underlying25 (zeroIS w) (by unfold maxLen; omega) (key_B x hx)
  rw [datG_at l hw n x.toList hin] at hat
  have hzs := dz_row hoi hat
  subst hzs
  obtain ⟨A, c, rfl, hc, hC⟩ := ints_C0 hoi
  exact ⟨A, c, hrun, hc, hC⟩
theorem Grp.len {w : World} {b q : Nat} {l : List ByteArray} {n : Nat} (h : Grp w b q l n) (ty : TypeId) : (Builtin.len_ #[25] ty #[.map (some b)]).run Try.prog w = .ok (.int .i64 (l.length : Int)) w := by
  have h9 := (groups_map (show w.ownsGroups _ _ _ _ _ _ _ _ from h)).len Try.underlying25 ty
  rw [h9, sizeG, rowsG_length]
theorem C_blk {α : Type} (enc : α → Value) (h1 : ∀ x, (enc x).oneCell' = true) {W : World} {g e : Nat} {xs : List α} (h : W.heap[g]? = some (.cells (xs.map enc).toArray e (0, 0))) (hl : xs.length ≤ 1000) : (Kd.scalar enc h1).C W (some ⟨g, 0, none⟩) xs.length xs :=
  (Kd.R_reads' (Kd.R_of_own (enc := enc) (h1 := h1) (e := e) (base := 0) (ok := fun _ => True) (v := .slice (some ⟨g, 0, none⟩) xs.length xs.length)
    ⟨by simp [encs], .inr ⟨g, xs.length, _, rfl, Nat.zero_le _, h, Nat.le_refl _, by unfold maxLen; omega, by simp, by rw [List.take_of_length_le (by simp)]; rfl⟩⟩ (fun _ _ => trivial))).2.2
/-! three -/
def bB : ByteArray := ⟨#[98]⟩
def bA : ByteArray := ⟨#[97]⟩
def l3 : List ByteArray := [bB, bA]
theorem tB : bB.toList = [98] := by rw [str_toList]; rfl
theorem tA : bA.toList = [97] := by rw [str_toList]; rfl
theorem l3_z : ∀ s ∈ l3, s.size ≤ 1000 := by
  intro s h
  simp only [l3, List.mem_cons, List.not_mem_nil, or_false] at h
  rcases h with rfl | rfl <;> decide
theorem l3_w : wrongL l3 = 0 := by
  unfold wrongL
  rw [if_pos (by decide), if_pos (by simp [l3, tB, tA])]
theorem l3_inA : isIn l3 [97] = true := by simp [isIn, l3, tB, tA]
theorem l3_inB : isIn l3 [98] = true := by simp [isIn, l3, tB, tA]
theorem l3_ofA : ofL l3 3 [97] = [0, 1] := by
  have : rkL l3 [97] = 0 := by
    simp only [rkL, l3, List.map_cons, List.map_nil, tB, tA]
    decide
  unfold ofL
  rw [this]
  rfl
theorem l3_ofB : ofL l3 3 [98] = [2] := by
  have : rkL l3 [98] = 1 := by
    simp only [rkL, l3, List.map_cons, List.map_nil, tB, tA]
    decide
  unfold ofL
  rw [this]
  rfl
theorem l3_errB : errOf l3 3 [98] = 0 := by
  unfold errOf
  rw [errA_of l3_w (by decide) (by decide), if_pos rfl, if_pos l3_inB]
theorem l3_own {s : ByteArray} {z : Int} (h : OwnP l3 3 1 s z) : s = bA ∧ z = 0 := by
  rcases h with ⟨rfl, h1, h2⟩ | ⟨_, _, h1⟩
  · have h3 : s.toList = [98] ∨ s.toList = [97] := by simpa [isIn, l3, tB, tA] using h1
    rcases h3 with h3 | h3
    · rw [h3, l3_ofB] at h2
      simp at h2
    · exact ⟨toList_inj (h3.trans tA.symm), rfl⟩
  · exact (h1 [97] l3_inA (by rw [l3_ofA]; decide)).elim
set_option maxHeartbeats 16000000 in
set_option maxRecDepth 100000 in
theorem three_calls (w : World) : Calls Try.prog 17 #[] w fun e w' => e = .returned (.bool true) ∧ Below w.heap.size w w' := by
  have hund : ∀ b, some undef = some (Value.bool b) → False := fun b h => by simp [undef] at h
  go_enter Try.func17, Try.ntmps17
  go_wp2_with fail
  have hC1 : Kd.C Kd.string (w.alloc (.cells #[.string ⟨#[98]⟩, .string ⟨#[97]⟩] 9)) (some ⟨w.heap.size, 0, none⟩) l3.length l3 := C_blk Value.string (fun _ => rfl) (blk_new w _) (by decide)
  refine (range_calls (some ⟨w.heap.size, 0, none⟩) 2 l3 3 _ hC1 (by decide) l3_z l3_w (by decide)).mono ?_
  rintro e w1 ⟨b, q, rfl, hb, hq, hG, hB⟩
  have HG := Aside0.mk (show Grp w1 b q l3 3 from hG)
  have HB := Aside0.mk (below_step (below_alloc (Below.refl _ _) _) hB : Below w.heap.size w w1)
  clear hG hB hC1 hb
  go_wp2_with fail
  have hC1 : Kd.C Kd.string (w1.alloc (.cells #[.string ⟨#[98]⟩, .string ⟨#[97]⟩] 9)) (some ⟨w1.heap.size, 0, none⟩) l3.length l3 := C_blk Value.string (fun _ => rfl) (blk_new w1 _) (by decide)
  refine (off_calls (some ⟨w1.heap.size, 0, none⟩) 2 l3 3 bB (by decide) _ hC1 (by decide) l3_z).mono ?_
  rw [tB, l3_errB, if_pos rfl, show (3 : Int).toNat = 3 from rfl, l3_ofB]
  rintro e w2 ⟨v, rfl, hR, hB⟩
  have hb2 : Below w1.heap.size w1 w2 := below_step (below_alloc (Below.refl _ _) _) hB
  obtain ⟨A2, c2, rfl, hc2, hC2⟩ := Kd.R_reads hR
  have n_G := Aside0.mk (HG.out.later hb2)
  have n_B := Aside0.mk (below_step HB.out hb2)
  have HC2 := Aside0.mk hC2
  clear HG HB hC1 hB hb2 hR hC2
  have HG := n_G
  have HB := n_B
  clear n_G n_B
  go_wp2_with fail
  have hC1 : Kd.C Kd.string (w2.alloc (.cells #[.string ⟨#[98]⟩, .string ⟨#[97]⟩] 9)) (some ⟨w2.heap.size, 0, none⟩) l3.length l3 := C_blk Value.string (fun _ => rfl) (blk_new w2 _) (by decide)
  refine (ownerf_calls (some ⟨w2.heap.size, 0, none⟩) 2 l3 3 1 _ hC1 (by decide) l3_z l3_w (by decide)).mono ?_
  rintro e w3 ⟨s, z, rfl, hP, hB⟩
  obtain ⟨rfl, rfl⟩ := l3_own hP
  have hb2 : Below w2.heap.size w2 w3 := below_step (below_alloc (Below.refl _ _) _) hB
  have n_G := Aside0.mk (HG.out.later hb2)
  have n_B := Aside0.mk (below_step HB.out hb2)
  have n_C := Aside0.mk (Kd.C_below HC2.out hb2)
  clear HG HB HC2 hC1 hB hb2 hP
  have HG := n_G
  have HB := n_B
  have HC2 := n_C
  clear n_G n_B n_C
  have hlen := fun ty => HG.out.len ty
  obtain ⟨A4, c4, hat, hc4, hC4⟩ := HG.out.at' hq l3_w bA (by decide) (by rw [tA]; exact l3_inA)
  rw [tA, l3_ofA] at hat hc4 hC4
  have hbA : (bA.toList == ([97] : List UInt8)) = true := by rw [tA]; rfl
  have HC4 := Aside0.mk hC4
  clear hC4
  have hl3 : (l3.length : Int) = 2 := rfl
  rw [hl3] at hlen
  have hat' : (Instr.lookup 25 (.map (some b)) (.string ⟨#[97]⟩) false).run Try.prog w3 = .ok (.slice A4 2 c4) w3 := hat
  clear hat
  go_wp2_with fail
  have hD1 : Kd.C (Kd.int .i64) (w3.alloc (.cells #[.int .i64 0, .int .i64 1] 3)) (some ⟨w3.heap.size, 0, none⟩) ([0, 1] : List Int).length [0, 1] := C_blk (Value.int .i64) (fun _ => rfl) (blk_new w3 _) (by decide)
  have hb3 : Below w3.heap.size w3 (w3.alloc (.cells #[.int .i64 0, .int .i64 1] 3)) := below_alloc (Below.refl _ _) _
  refine (ints_calls A4 (some ⟨w3.heap.size, 0, none⟩) c4 2 [0, 1] (by decide) hc4 (by decide) _ (Kd.C_below HC4.out hb3) hD1).mono ?_
  rintro e w4 ⟨rfl, hB⟩
  have hb4 : Below w3.heap.size w3 w4 := below_step hb3 hB
  have n_B := Aside0.mk (below_step HB.out hb4)
  have n_C := Aside0.mk (Kd.C_below HC2.out hb4)
  clear HB HC2 hD1 hb3 hB hb4 HC4 HG hat' hlen
  have HB := n_B
  have HC2 := n_C
  clear n_B n_C
  go_wp2_with fail
  have hD1 : Kd.C (Kd.int .i64) (w4.alloc (.cells #[.int .i64 2] 3)) (some ⟨w4.heap.size, 0, none⟩) ([2] : List Int).length [2] := C_blk (Value.int .i64) (fun _ => rfl) (blk_new w4 _) (by decide)
  have hb3 : Below w4.heap.size w4 (w4.alloc (.cells #[.int .i64 2] 3)) := below_alloc (Below.refl _ _) _
  refine (ints_calls A2 (some ⟨w4.heap.size, 0, none⟩) c2 1 [2] (by decide) hc2 (by decide) _ (Kd.C_below HC2.out hb3) hD1).mono ?_
  rintro e w5 ⟨rfl, hB⟩
  have HB5 := Aside0.mk (below_step HB.out (below_step hb3 hB))
  clear HB HC2 hD1 hb3 hB
  go_wp2_with fail
  go_ret
  exact ⟨rfl, HB5.out⟩
end Go.Proofs.Ytohhlkabejangaa.As

namespace Go.Proofs.Ytohhlkabejangaa.As
open Go.RowKit Go.Maps Go.Sort Go.ChangeShapes Go.Proofs.YtohhlkabejangaaW.PrintWords Go.Proofs.YtohhlkabejangaaW.PrintLast Go.Proofs.YtohhlkabejangaaW.PrintMore Go.Proofs.Ytohhlkabejangaa.PAs
set_option linter.unusedVariables false
set_option linter.unusedSimpArgs false
/-- texts that come in: n of them, with room for k -/
def Ss (k : Nat) (W : World) (A : Option Addr) (n : Nat) (l : List ByteArray) : Prop := l.length = n ∧ n ≤ k ∧ Kd.C Kd.string W A n l
def ofR (l : List ByteArray) (n : Int) (x : List UInt8) : List Int := if errOf l n x = 0 then ofL l n.toNat x else []
theorem ofR_len (l : List ByteArray) (n : Int) (x : List UInt8) : (ofR l n x).length ≤ 1000 := by
  unfold ofR
  split
  · rename_i h
    have h1 := ofL_none l n.toNat x
    have : errA l n = 0 := by
      unfold errOf at h
      split at h
      · assumption
      · rename_i h2
        exact (h2 h).elim
    have := errA_zero this
    omega
  · simp
theorem perm_ofR {l m : List ByteArray} (h : l.Perm m) (n : Int) (x : List UInt8) : ofR l n x = ofR m n x := by
  unfold ofR
  rw [perm_errOf h, perm_ofL h]
theorem infoS : (Try.prog.info? 9).map (fun i => (i.zero, i.size, i.bytes)) = some (some (.string ⟨#[]⟩), 1, 16) := by kernel_rfl
theorem offR_calls (A : Option Addr) (c : Nat) (l : List ByteArray) (n : Int) (s : ByteArray) (hs : s.size ≤ 1000) (w : World) (hA : Kd.C Kd.string w A l.length l) (hl : l.length ≤ 1000) (hz : ∀ s ∈ l, s.size ≤ 1000) :
    Calls Try.prog 19 #[.slice A l.length c, .int .i64 n, .string s] w fun e w' => ∃ A1 c1, e = .returned (.tuple #[.slice A1 (ofR l n s.toList).length c1, .int .i64 (errOf l n s.toList)]) ∧ (ofR l n s.toList).length ≤ c1 ∧ Kd.C (Kd.int .i64) w' A1 (ofR l n s.toList).length (ofR l n s.toList) ∧ Below w.heap.size w w' := by
  refine (off_calls A c l n s hs w hA hl hz).mono ?_
  rintro e w' ⟨v, rfl, hR, hb⟩
  obtain ⟨A1, c1, rfl, hc, hC⟩ := Kd.R_reads hR
  exact ⟨A1, c1, rfl, hc, hC, hb⟩
def srtB (l : List ByteArray) : List ByteArray := (srt l).map mkB
theorem srtB_length (l : List ByteArray) : (srtB l).length = l.length := by
  unfold srtB
  rw [List.length_map, srt_length]
/-- what Sorted tells -/
def srtR (l : List ByteArray) : List ByteArray := if wrongL l = 0 then srtB l else []
theorem srtR_len (l : List ByteArray) : (srtR l).length ≤ l.length := by
  unfold srtR
  split
  · rw [srtB_length]; exact Nat.le_refl _
  · simp
theorem sortedR_calls (A : Option Addr) (c : Nat) (l : List ByteArray) (w : World) (hA : Kd.C Kd.string w A l.length l) (hl : l.length ≤ 1000) (hz : ∀ s ∈ l, s.size ≤ 1000) :
    Calls Try.prog 20 #[.slice A l.length c] w fun e w' => ∃ A1 c1, e = .returned (.tuple #[.slice A1 (srtR l).length c1, .int .i64 (wrongL l)]) ∧ (srtR l).length ≤ c1 ∧ Kd.C Kd.string w' A1 (srtR l).length (srtR l) ∧ Below w.heap.size w w' := by
  refine (sorted_calls A c l w hA hl hz).mono ?_
  rintro e w' ⟨v, rfl, hR, hb⟩
  have e1 : (if wrongL l = 0 then srt l else []).map mkB = srtR l := by
    unfold srtR srtB
    split <;> rfl
  have hR := str_R hR
  rw [e1] at hR
  obtain ⟨A1, c1, rfl, hc, hC⟩ := Kd.R_reads hR
  exact ⟨A1, c1, rfl, hc, hC, hb⟩
theorem perm_srtR {l m : List ByteArray} (h : l.Perm m) : srtR l = srtR m := by
  unfold srtR srtB
  rw [(perm_facts h).1, (perm_facts h).2.2.2]
set_option maxHeartbeats 16000000 in
set_option maxRecDepth 100000 in
theorem turned_out (l : List ByteArray) (A : Option Addr) (n k : Nat) (parts turn : Int) (w : World) (hp : Ss k w A n l) (h : largeB l = true ∨ largeB l = false ∧ (l.length = 0 ∨ turn < 0)) :
    Calls Try.prog 5 #[.slice A n k, .int .i64 parts, .int .i64 turn] w fun e w' => e = .returned (.bool true) ∧ Below w.heap.size w w' := by
  have hund : ∀ b, some undef = some (Value.bool b) → False := fun b h => by simp [undef] at h
  obtain ⟨rfl, hnk, hC⟩ := hp
  have hlg := Aside0.mk (large_calls A k l w hC hnk)
  have fin : ∀ w1, Below w.heap.size w w1 → Calls Try.prog 17 #[] w1 fun e w' => e = .returned (.bool true) ∧ Below w.heap.size w w' := fun w1 hb => (three_calls w1).mono (by
    rintro e w2 ⟨rfl, h2⟩
    exact ⟨rfl, below_step hb h2⟩)
  have fin := Aside0.mk fin
  clear hC
  rcases h with h | ⟨h, h0⟩
  · rw [h] at hlg
    go_enter Try.func5, Try.ntmps5
    go_wp2_with fail
    refine hlg.out.mono ?_
    rintro e w1 ⟨rfl, hb⟩
    have HB := Aside0.mk hb
    clear hb hlg
    go_wp2_with fail
    refine (fin.out w1 HB.out).mono ?_
    rintro e w2 ⟨rfl, hb⟩
    have HB2 := Aside0.mk hb
    clear hb HB
    go_wp2_with fail
    go_ret
    exact ⟨rfl, HB2.out⟩
  · rw [h] at hlg
    by_cases hl0 : l.length = 0
    · have c1 : ((l.length : Int) == 0) = true := by rw [hl0]; rfl
      clear h0 hl0
      go_enter Try.func5, Try.ntmps5
      go_wp2_with fail
      refine hlg.out.mono ?_
      rintro e w1 ⟨rfl, hb⟩
      have HB := Aside0.mk hb
      clear hb hlg
      go_wp2_with fail
      refine (fin.out w1 HB.out).mono ?_
      rintro e w2 ⟨rfl, hb⟩
      have HB2 := Aside0.mk hb
      clear hb HB
      go_wp2_with fail
      go_ret
      exact ⟨rfl, HB2.out⟩
    · have ht : turn < 0 := by omega
      have c1 : ((l.length : Int) == 0) = false := beq_eq_false_iff_ne.2 (by omega)
      have c2 : decide (turn < 0) = true := decide_eq_true ht
      clear h0 hl0 ht
      go_enter Try.func5, Try.ntmps5
      go_wp2_with fail
      refine hlg.out.mono ?_
      rintro e w1 ⟨rfl, hb⟩
      have HB := Aside0.mk hb
      clear hb hlg
      go_wp2_with fail
      refine (fin.out w1 HB.out).mono ?_
      rintro e w2 ⟨rfl, hb⟩
      have HB2 := Aside0.mk hb
      clear hb HB
      go_wp2_with fail
      go_ret
      exact ⟨rfl, HB2.out⟩
set_option maxHeartbeats 16000000 in
set_option maxRecDepth 100000 in
theorem turned_in (l : List ByteArray) (A : Option Addr) (n k : Nat) (parts turn : Int) (w : World) (hp : Ss k w A n l) (hbig : largeB l = false) (h0 : l.length ≠ 0) (ht : 0 ≤ turn) :
    Calls Try.prog 5 #[.slice A n k, .int .i64 parts, .int .i64 turn] w fun e w' => e = .returned (.bool true) ∧ Below w.heap.size w w' := by
  have hund : ∀ b, some undef = some (Value.bool b) → False := fun b h => by simp [undef] at h
  obtain ⟨i0S, hiS, _, hszS, _⟩ := info_parts infoS
  obtain ⟨rfl, hnk, hC⟩ := hp
  have hlg := Aside0.mk (large_calls A k l w hC hnk)
  rw [hbig] at hlg
  obtain ⟨hl20, hz⟩ := large_no hbig
  have hl : l.length ≤ 1000 := by omega
  have HZ := Aside0.mk (fun s hs => Nat.le_trans (hz s hs) (by omega) : ∀ s ∈ l, s.size ≤ 1000)
  have HC := Aside0.mk hC
  have c1 : ((l.length : Int) == 0) = false := beq_eq_false_iff_ne.2 (by omega)
  have c2 : decide (turn < 0) = false := decide_eq_false (by omega)
  have hne : ¬ (l.length : Int) = 0 := by omega
  obtain ⟨d, hd, hdl⟩ : ∃ d : Nat, Int.tmod turn (l.length : Int) = d ∧ d < l.length := by
    have h1 := Int.tmod_nonneg (l.length : Int) ht
    have h2 := Int.tmod_lt_of_pos turn (show (0 : Int) < l.length by omega)
    exact ⟨(Int.tmod turn (l.length : Int)).toNat, by omega, by omega⟩
  have hwr : wrap64 (d : Int) = d := w64 _ (by omega) (by omega)
  have hwr2 : IntKind.i64.wrap (d : Int) = d := IntWalk.i64_in _ (by omega)
  have hcut1 := cut_from (P := Try.prog) 22 9 .i64 Try.underlying22 hiS 1 hszS A l.length k (d : Int) (by omega) (by omega)
  have hcut2 := cut_to (P := Try.prog) 22 9 .i64 Try.underlying22 hiS A l.length k (d : Int) (by omega) (by omega) hnk
  have hkd : ¬ k = d := by omega
  rw [Int.toNat_natCast, if_neg hkd, Nat.mul_one] at hcut1
  rw [Int.toNat_natCast] at hcut2
  have hperm : l.Perm (l.drop d ++ l.take d) := turn_perm l d
  have hC1 : Aside0 (∀ W, Below w.heap.size w W → Kd.C Kd.string W (A.map (·.add d)) (l.length - d) (l.drop d)) := ⟨fun W hb => by
    have h9 := Kd.C_drop (m := d) (c := k) hC (by omega) hnk
    rw [List.length_drop, if_neg hkd, show Kd.string.sz = 1 from rfl, Nat.mul_one] at h9
    exact Kd.C_below h9 hb⟩
  have hC2 : Aside0 (∀ W, Below w.heap.size w W → Kd.C Kd.string W A d (l.take d)) := ⟨fun W hb => by
    have h9 := Kd.C_take (m := d) hC (by omega)
    rw [List.length_take, Nat.min_eq_left (by omega)] at h9
    exact Kd.C_below h9 hb⟩
  obtain ⟨AD, hAD⟩ : ∃ X, A.map (·.add d) = X := ⟨_, rfl⟩
  rw [hAD] at hcut1 hC1
  clear hAD
  obtain ⟨m, hm⟩ : ∃ m, l.drop d ++ l.take d = m := ⟨_, rfl⟩
  have HM := Aside0.mk hm
  rw [hm] at hperm
  have hml : m.length = l.length := hperm.length_eq.symm
  have HMZ := Aside0.mk (fun s hs => HZ.out s (hperm.mem_iff.2 hs) : ∀ s ∈ m, s.size ≤ 1000)
  have HP := Aside0.mk hperm
  have HML := Aside0.mk hml
  clear hm hperm hml hC hz hbig hszS hiS
  go_enter Try.func5, Try.ntmps5
  go_wp2_with fail
  refine hlg.out.mono ?_
  rintro e w1 ⟨rfl, hb⟩
  have HB := Aside0.mk hb
  have Ra : Aside0 (Kd.R Kd.string 9 w1 w1.heap.size (fun _ => True) (.slice none 0 0) []) := ⟨Kd.R_nil _ _ _ _ _⟩
  have Ha := Aside0.mk (Below.refl w1.heap.size w1)
  clear hb hlg
  go_wp2_with (first
    | ((with_reducible refine gate_builtin (b := .append) (xs := #[.tmp 35, .tmp 38]) rfl ?_); at_builtin; refine Kd.R_append_row Value.string ⟨#[]⟩ (h1 := fun _ => rfl) (w0 := w1) w1.heap.size rfl (.tmp 35) (.tmp 38) 22 9 (.string ⟨#[]⟩) 16 rfl Try.underlying22 infoS rfl (by decide) _ [] (l.drop d) (AD) (l.length - d) (k - d) (fun _ => True) rfl rfl (fun _ _ => trivial) Ra.out (hC1.out _ (below_step HB.out Ha.out)) Ha.out Ha.out.size ?aL ?_; (case aL => (try simp only [List.length_nil, Nat.zero_add, List.length_drop, List.length_take]); omega); intro xa1 w4 ho hb hgr hat; have n_R : Aside0 (Kd.R Kd.string 9 w4 w1.heap.size (fun _ => True) xa1 (l.drop d)) := ⟨ho⟩; clear Ra Ha ho hgr hat; have Ra := n_R; have Ha := Aside0.mk hb; clear hb n_R)
    | ((with_reducible refine gate_builtin (b := .append) (xs := #[.tmp 40, .tmp 43]) rfl ?_); at_builtin; refine Kd.R_append_row Value.string ⟨#[]⟩ (h1 := fun _ => rfl) (w0 := w1) w1.heap.size rfl (.tmp 40) (.tmp 43) 22 9 (.string ⟨#[]⟩) 16 rfl Try.underlying22 infoS rfl (by decide) _ (l.drop d) (l.take d) (A) (d) (k) (fun _ => True) rfl rfl (fun _ _ => trivial) Ra.out (hC2.out _ (below_step HB.out Ha.out)) Ha.out Ha.out.size ?aL ?_; (case aL => (try simp only [List.length_nil, Nat.zero_add, List.length_drop, List.length_take]); omega); intro xa2 w5 ho hb hgr hat; have n_R : Aside0 (Kd.R Kd.string 9 w5 w1.heap.size (fun _ => True) xa2 m) := ⟨by rw [← HM.out]; exact ho⟩; clear Ra Ha ho hgr hat; have Ra := n_R; have Ha := Aside0.mk hb; clear hb n_R; obtain ⟨Am, cm, hum, hcm, hCm⟩ := Kd.R_reads Ra.out; subst hum))
  have HCm := Aside0.mk hCm
  have HB5 := Aside0.mk (below_step HB.out Ha.out)
  have HCM := Aside0.mk hcm
  clear hCm hcm Ra Ha HB hcut1 hcut2 hC1 hC2 HM
  have hml := HML.out
  have HML1 := Aside0.mk (show m.length ≤ 1000 by omega)
  have HC5 := Aside0.mk (Kd.C_below HC.out HB5.out)
  clear HML HC hml
  go_loopw [47] (fun iv wr => ∃ j : Nat, j ≤ l.length ∧ iv = .int .i64 j ∧ Aside0 (Below w5.heap.size w5 wr)) (fun iv _ => l.length - (intOf iv).toNat)
  case atStart => exact ⟨0, Nat.zero_le _, rfl, ⟨Below.refl _ _⟩⟩
  case round =>
    obtain ⟨j, hj, rfl, HW⟩ := hrel
    by_cases hjl : j < l.length
    · obtain ⟨ad, rfl, hx⟩ := Kd.at_string (Kd.C_below HC5.out HW.out) (j : Int) (by omega) (by omega)
      rw [rd_at l j hjl, Int.toNat_natCast] at hx
      obtain ⟨x, hxe⟩ : ∃ x, l[j] = x := ⟨_, rfl⟩
      rw [hxe] at hx
      have hxs : x.size ≤ 1000 := by rw [← hxe]; exact HZ.out _ (List.getElem_mem hjl)
      have k1 : decide ((j : Int) < (l.length : Int)) = true := decide_eq_true (by omega)
      have k2 : (0 ≤ (j : Int)) = True := eq_true (by omega)
      have k3 : ((j : Int) < (l.length : Int)) = True := eq_true (by omega)
      clear hxe
      go_wp2_with fail
      refine (offR_calls _ k l parts x hxs wr (Kd.C_below HC5.out HW.out) hl HZ.out).mono ?_
      rintro e w6 ⟨A1, c6, rfl, hc6, hC6, hb⟩
      have n_W := Aside0.mk (below_step HW.out hb)
      have HC6 := Aside0.mk hC6
      clear HW hb hC6
      have HW := n_W
      clear n_W
      go_wp2_with fail
      refine (offR_calls Am cm m parts x hxs w6 (Kd.C_below HCm.out HW.out) HML1.out HMZ.out).mono ?_
      rw [← perm_errOf HP.out, ← perm_ofR HP.out]
      rintro e w7 ⟨A2, c7, rfl, hc7, hC7, hb⟩
      have n_W := Aside0.mk (below_step HW.out hb)
      have n_6 := Aside0.mk (Kd.C_below HC6.out hb)
      have HC7 := Aside0.mk hC7
      clear HW hb hC7 HC6
      have HW := n_W
      have HC6 := n_6
      clear n_W n_6
      have hor := ofR_len l parts x.toList
      generalize errOf l parts x.toList = z at *
      generalize ofR l parts x.toList = zs at *
      have k4 : (z != z) = false := by simp
      go_wp2_with fail
      refine (ints_calls A1 A2 c6 c7 zs hor hc6 hc7 w7 HC6.out HC7.out).mono ?_
      rintro e w8 ⟨rfl, hb⟩
      have n_W := Aside0.mk (below_step HW.out hb)
      clear HW hb HC6 HC7
      have HW := n_W
      clear n_W
      go_wp2_with fail
      go_roundw
      case rel => exact ⟨j + 1, by omega, by first | rfl | simp, HW⟩
      case measure => simp [intOf]; omega
    · obtain rfl : j = l.length := by omega
      have k1 : decide ((l.length : Int) < (l.length : Int)) = false := decide_eq_false (by omega)
      go_wp2_with fail
      refine (sortedR_calls _ k l wr (Kd.C_below HC5.out HW.out) hl HZ.out).mono ?_
      rintro e w6 ⟨A1, c6, rfl, hc6, hC6, hb⟩
      have n_W := Aside0.mk (below_step HW.out hb)
      have HC6 := Aside0.mk hC6
      clear HW hb hC6
      have HW := n_W
      clear n_W
      go_wp2_with fail
      refine (sortedR_calls Am cm m w6 (Kd.C_below HCm.out HW.out) HML1.out HMZ.out).mono ?_
      rw [← (perm_facts HP.out).1, ← perm_srtR HP.out]
      rintro e w7 ⟨A2, c7, rfl, hc7, hC7, hb⟩
      have n_W := Aside0.mk (below_step HW.out hb)
      have n_6 := Aside0.mk (Kd.C_below HC6.out hb)
      have HC7 := Aside0.mk hC7
      clear HW hb hC7 HC6
      have HW := n_W
      have HC6 := n_6
      clear n_W n_6
      have hor := srtR_len l
      generalize wrongL l = z at *
      generalize srtR l = zs at *
      have hor : zs.length ≤ 1000 := by omega
      have k4 : (z == z) = true := by simp
      go_wp2_with fail
      refine (texts_calls A1 A2 c6 c7 zs hor hc6 hc7 w7 HC6.out HC7.out).mono ?_
      rintro e w8 ⟨rfl, hb⟩
      have HB8 := Aside0.mk (below_step HB5.out (below_step HW.out hb))
      clear HW hb HC6 HC7
      go_wp2_with fail
      refine (three_calls w8).mono ?_
      rintro e w9 ⟨rfl, hb⟩
      have HB9 := Aside0.mk (below_step HB8.out hb)
      clear hb HB8
      go_wp2_with fail
      go_ret
      exact ⟨rfl, HB9.out⟩
theorem turned_calls (l : List ByteArray) (A : Option Addr) (n k : Nat) (parts turn : Int) (w : World) (hp : Ss k w A n l) :
    Calls Try.prog 5 #[.slice A n k, .int .i64 parts, .int .i64 turn] w fun e w' => e = .returned (.bool true) ∧ Below w.heap.size w w' := by
  cases hbig : largeB l with
  | true => exact turned_out l A n k parts turn w hp (.inl hbig)
  | false =>
    by_cases h : l.length = 0 ∨ turn < 0
    · exact turned_out l A n k parts turn w hp (.inr ⟨hbig, h⟩)
    · exact turned_in l A n k parts turn w hp hbig (fun h0 => h (.inl h0)) (by omega)
end Go.Proofs.Ytohhlkabejangaa.As

namespace Go.Proofs.Ytohhlkabejangaa.As
open Go.RowKit Go.Maps Go.Sort Go.ChangeShapes Go.Proofs.YtohhlkabejangaaW.PrintWords Go.Proofs.YtohhlkabejangaaW.PrintLast Go.Proofs.YtohhlkabejangaaW.PrintMore Go.Proofs.Ytohhlkabejangaa.PAs
open Go.WideElems (Fit rd rg pl rd_val elemAt)
set_option linter.unusedVariables false
set_option linter.unusedSimpArgs false
theorem entry_uniq {es : List MapEntry} (h : es.Pairwise (fun x y => x.key ≠ y.key)) {x y : MapEntry} (hx : x ∈ es) (hy : y ∈ es) (e : x.key = y.key) : x = y := by
  obtain ⟨i, hi, rfl⟩ := List.getElem_of_mem hx
  obtain ⟨j, hj, rfl⟩ := List.getElem_of_mem hy
  rw [List.pairwise_iff_getElem] at h
  rcases Nat.lt_trichotomy i j with h1 | h1 | h1
  · exact (h i j hi hj h1 e).elim
  · subst h1; rfl
  · exact (h j i hj hi h1 e.symm).elim
/-- a look-up tells the same as long as the map's block is the same -/
theorem look_same {P : Program} {w W : World} {k E t : TypeId} {b : Nat} {es : Array MapEntry} {clock : Nat} {R R' : Value → Option (DataW Unit × List MemPlace)} (K : Keyed P k) (ht : P.underlying t = some (.map k E)) {z : Value} (hz : (zeroValue E).run P w = .ok z w) (hz' : (zeroValue E).run P W = .ok z W)
    (hb : w.heap[b]? = some (.map es clock)) (hb' : W.heap[b]? = some (.map es clock)) (F : Fit P k R es clock) (F' : Fit P k R' es clock) {key : Value} {kl : Lit} (hkey : keyOf P k key = some kl) {c : Bool} {v : Value} (h : (Instr.lookup t (.map (some b)) key c).run P w = .ok v w) :
    (Instr.lookup t (.map (some b)) key c).run P W = .ok v W := by
  have hn : es.toList.Pairwise (fun x y => x.key ≠ y.key) := ((Go.MapKept.stamped_iff es clock).1 F.stamped).2.2
  rcases Maps.fit_look c K ht hz hb F hkey with ⟨hrun, hno, _⟩ | ⟨e0, y, hm0, h3, hrun, _, _⟩ <;> rcases Maps.fit_look c K ht hz' hb' F' hkey with ⟨hrun', hno', _⟩ | ⟨e0', y', hm0', h3', hrun', _, _⟩
  · rw [h] at hrun
    rw [hrun']
    simp only [Result.ok.injEq, and_true] at hrun
    rw [hrun]
  · exact (hno _ hm0' h3').elim
  · exact (hno' _ hm0 h3).elim
  · obtain rfl := entry_uniq hn hm0 hm0' (h3.trans h3'.symm)
    rw [h] at hrun
    rw [hrun']
    simp only [Result.ok.injEq, and_true] at hrun
    rw [hrun]
theorem Grp.look {w : World} {b q : Nat} {l : List ByteArray} {n : Nat} (h : Grp w b q l n) (hq : q ≤ 6000) (hw : wrongL l = 0) (x : ByteArray) (hx : x.size ≤ 1000) (hin : isIn l x.toList = true) :
    ∃ A c, (∀ W, Below w.heap.size w W → (Instr.lookup 25 (.map (some b)) (.string x) false).run Try.prog W = .ok (.slice A (ofL l n x.toList).length c) W) ∧ (ofL l n x.toList).length ≤ c ∧ Kd.C (Kd.int .i64) w A (ofL l n x.toList).length (ofL l n x.toList) := by
  obtain ⟨A, c, hrun, hc, hC⟩ := h.at' hq hw x hx hin
  refine ⟨A, c, fun W hb => ?_, hc, hC⟩
  have hW := h.later hb
  obtain ⟨es, clock, h1, F, _⟩ := h
  obtain ⟨es', clock', h1', F', _⟩ := hW
  have h2 : W.heap[b]? = some (.map es clock) := (hb.block b (Array.getElem?_eq_some_iff.1 h1).1).trans h1
  obtain ⟨rfl, rfl⟩ : es' = es ∧ clock' = clock := by rw [h1'] at h2; simpa using h2
  exact look_same str_law Try.underlying25 (zeroIS w) (zeroIS W) h1 h2 F F' (key_B x hx) hrun
/-- the members, sorted, one by one -/
theorem srtB_at (l : List ByteArray) (hw : wrongL l = 0) (j : Nat) (hj : j < (srtB l).length) : rkL l (srtB l)[j].toList = j ∧ isIn l (srtB l)[j].toList = true ∧ ((∀ s ∈ l, s.size ≤ 1000) → (srtB l)[j].size ≤ 1000) := by
  have hj' : j < (srt l).length := by rw [srt_length, ← srtB_length]; exact hj
  have e : (srtB l)[j] = mkB (srt l)[j] := by simp [srtB]
  have hm : (srt l)[j] ∈ srt l := List.getElem_mem _
  rw [e, mkB_toList]
  refine ⟨rk_srt l (wrong_nodup hw) j hj', (isIn_srt l _).2 hm, fun hz => ?_⟩
  obtain ⟨s, hs, he⟩ := List.mem_map.1 ((srt_perm l).mem_iff.1 hm)
  rw [← he, toList_mkB]
  exact hz s hs
theorem any_srtB (l : List ByteArray) (m : ByteArray) : (srtB l).any (fun x => x.toList == m.toList) = isIn l m.toList := by
  rw [Bool.eq_iff_iff, List.any_eq_true, isIn_srt]
  unfold srtB
  constructor
  · rintro ⟨x, hx, e⟩
    obtain ⟨y, hy, rfl⟩ := List.mem_map.1 hx
    rw [mkB_toList] at e
    rw [← eq_of_beq e]
    exact hy
  · intro h
    exact ⟨mkB m.toList, List.mem_map_of_mem h, by rw [mkB_toList]; exact beq_self_eq_true _⟩
end Go.Proofs.Ytohhlkabejangaa.As

namespace Go.Proofs.Ytohhlkabejangaa.As
open Go.RowKit Go.Maps Go.Sort Go.ChangeShapes Go.Proofs.YtohhlkabejangaaW.PrintWords Go.Proofs.YtohhlkabejangaaW.PrintLast Go.Proofs.YtohhlkabejangaaW.PrintMore Go.Proofs.Ytohhlkabejangaa.PAs
set_option linter.unusedVariables false
set_option linter.unusedSimpArgs false
theorem errOf_in {l : List ByteArray} {n : Int} {x : List UInt8} (h : errA l n = 0) : errOf l n x = if isIn l x = true then 0 else 6 := by
  unfold errOf
  rw [if_pos h]
theorem ofR_in {l : List ByteArray} {n : Nat} {x : List UInt8} (h : errA l n = 0) : ofR l n x = if isIn l x = true then ofL l n x else [] := by
  unfold ofR
  rw [errOf_in h]
  cases isIn l x <;> simp
end Go.Proofs.Ytohhlkabejangaa.As

namespace Go.Proofs.Ytohhlkabejangaa.As
open Go.RowKit Go.Maps Go.Sort Go.ChangeShapes Go.Proofs.YtohhlkabejangaaW.PrintWords Go.Proofs.YtohhlkabejangaaW.PrintLast Go.Proofs.YtohhlkabejangaaW.PrintMore Go.Proofs.Ytohhlkabejangaa.PAs
set_option linter.unusedVariables false
set_option linter.unusedSimpArgs false
/-! ### each partition is just one member's -/
theorem ofRR_calls (A : Option Addr) (c : Nat) (l : List ByteArray) (n : Int) (s : ByteArray) (hs : s.size ≤ 1000) (w : World) (hA : Kd.C Kd.string w A l.length l) (hl : l.length ≤ 1000) (hz : ∀ s ∈ l, s.size ≤ 1000) :
    Calls Try.prog 19 #[.slice A l.length c, .int .i64 n, .string s] w fun e w' => ∃ v, e = .returned (.tuple #[v, .int .i64 (errOf l n s.toList)]) ∧ Kd.R (Kd.int .i64) 3 w' w.heap.size (fun _ => True) v (ofR l n s.toList) ∧ Below w.heap.size w w' :=
  off_calls A c l n s hs w hA hl hz
/-- the partitions that have been met: of the first k members -/
def metL (l : List ByteArray) (n k : Nat) : List Int := (l.take k).flatMap (fun m => ofL l n m.toList)
theorem metL_succ (l : List ByteArray) (n k : Nat) (hk : k < l.length) : metL l n (k + 1) = metL l n k ++ ofL l n l[k].toList := by
  unfold metL
  rw [List.take_add_one, List.getElem?_eq_getElem hk, List.flatMap_append]
  simp
theorem in_of_mem (l : List ByteArray) (m : ByteArray) (h : m ∈ l) : isIn l m.toList = true := by
  unfold isIn
  rw [List.contains_iff_mem]
  exact List.mem_map_of_mem h
theorem metL_nodup (l : List ByteArray) (hw : wrongL l = 0) (n : Nat) : ∀ k, k ≤ l.length → (metL l n k).Nodup
  | 0, _ => by simp [metL]
  | k + 1, hk => by
    rw [metL_succ l n k (by omega), List.nodup_append]
    refine ⟨metL_nodup l hw n k (by omega), ofL_nodup _ _ _, ?_⟩
    intro a ha b hb e
    subst e
    unfold metL at ha
    obtain ⟨m, hm, hma⟩ := List.mem_flatMap.1 ha
    obtain ⟨i, hi, rfl⟩ := List.getElem_of_mem hm
    rw [List.length_take] at hi
    rw [List.getElem_take] at hma
    have he := ofL_apart l hw n _ _ (in_of_mem l _ (List.getElem_mem (by omega))) (in_of_mem l _ (List.getElem_mem (by omega))) a hma hb
    have he2 := toList_inj he
    have hnd := (nodup_str l).1 (wrong_nodup hw)
    rw [List.Nodup, List.pairwise_iff_getElem] at hnd
    exact hnd i k (by omega) (by omega) (by omega) he2
theorem metL_all (l : List ByteArray) (hw : wrongL l = 0) (h0 : 0 < l.length) (n : Nat) (p : Nat) (hp : p < n) : (metL l n l.length).count (p : Int) = 1 := by
  have hn := metL_nodup l hw n l.length (Nat.le_refl _)
  rw [hn.count, if_pos]
  obtain ⟨x, hx, hpx⟩ := ofL_some l hw h0 n p (by omega) (by omega)
  unfold metL
  rw [List.take_length]
  obtain ⟨m, hm, e⟩ := List.mem_map.1 (List.contains_iff_mem.1 hx)
  exact List.mem_flatMap.2 ⟨m, hm, by rw [e]; exact hpx⟩
theorem metL_short (l : List ByteArray) (hw : wrongL l = 0) (n : Nat) (p : Int) (k : Nat) (hk : k ≤ l.length) : (metL l n k).count p ≤ 1 := by
  have hn := metL_nodup l hw n k hk
  rw [hn.count]
  split <;> omega
/-- how often each partition has been met -/
def cntP (n : Nat) (ps : List Int) : List Int := (List.range n).map (fun (p : Nat) => ((ps.count (p : Int) : Nat) : Int))
theorem cntP_length (n : Nat) (ps : List Int) : (cntP n ps).length = n := by simp [cntP]
theorem cntP_at (n : Nat) (ps : List Int) (p : Nat) (hp : p < n) : (cntP n ps)[p]'(by rw [cntP_length]; exact hp) = ((ps.count (p : Int) : Nat) : Int) := by simp [cntP]
theorem cntP_set (n : Nat) (ps : List Int) (p : Nat) (hp : p < n) : (cntP n ps).set p (((ps.count (p : Int) : Nat) : Int) + 1) = cntP n (ps ++ [(p : Int)]) := by
  apply List.ext_getElem
  · simp [cntP]
  · intro i h1 h2
    have hi : i < n := by rw [cntP_length] at h2; exact h2
    rw [List.getElem_set, cntP_at n (ps ++ [(p : Int)]) i hi, List.count_append]
    by_cases e : p = i
    · subst e
      rw [if_pos rfl]
      simp
    · rw [if_neg e, cntP_at n ps i hi]
      have : [(p : Int)].count (i : Int) = 0 := by
        rw [List.count_eq_zero]
        intro h
        have := List.mem_singleton.1 h
        omega
      rw [this, Nat.add_zero]
theorem cntP_nil (n : Nat) : cntP n [] = List.replicate n 0 := by
  unfold cntP
  apply List.ext_getElem
  · simp
  · intro i h1 h2
    simp
theorem made_cnt (n : Nat) : madeCells #[Value.int .i64 0] n = ((cntP n []).map (Value.int .i64)).toArray := by
  apply Array.ext
  · simp [madeCells, cntP]
  · intro i h1 h2
    simp [madeCells, cntP, Nat.mod_one]
theorem cells_put (zs : List Int) (p : Nat) (v : Int) : ((zs.map (Value.int .i64)).toArray.setIfInBounds p (.int .i64 v)) = ((zs.set p v).map (Value.int .i64)).toArray := by
  simp
theorem own_self (l : List ByteArray) (hw : wrongL l = 0) (n : Nat) (m : ByteArray) (hm : m ∈ l) (p : Int) (hp : p ∈ ofL l n m.toList) {s : ByteArray} {z : Int} (h : OwnP l n p s z) : s = m ∧ z = 0 := by
  rcases h with ⟨rfl, h1, h2⟩ | ⟨_, _, h1⟩
  · exact ⟨toList_inj (ofL_apart l hw n _ _ h1 (in_of_mem l m hm) p h2 hp), rfl⟩
  · exact (h1 _ (in_of_mem l m hm) hp).elim
theorem own_none (l : List ByteArray) (n : Nat) {s : ByteArray} {z : Int} (h : OwnP l n (n : Int) s z) : s = ⟨#[]⟩ ∧ z = 6 := by
  rcases h with ⟨rfl, h1, h2⟩ | ⟨h1, h2, _⟩
  · have := ofL_range l n _ _ h2
    omega
  · exact ⟨h2, h1⟩
end Go.Proofs.Ytohhlkabejangaa.As

