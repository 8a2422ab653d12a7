import Derived.Test.YtohhlkabejangaaAs8
import Derived.Test.YtohhlkabejangaaAs7
import Derived.Sort.Walk0
namespace Go.Proofs.Ytohhlkabejangaa.As
open Go.RowKit Go.Maps Go.Sort Go.ChangeShapes Go.Proofs.YtohhlkabejangaaW.PrintWords Go.Proofs.YtohhlkabejangaaW.PrintLast Go.Proofs.YtohhlkabejangaaW.PrintMore Go.Proofs.Ytohhlkabejangaa.PAs
set_option linter.unusedVariables false
set_option linter.unusedSimpArgs false
/-! ### What the printed functions compute -/
def mkB (x : List UInt8) : ByteArray := ⟨x.toArray⟩
theorem mkB_toList (x : List UInt8) : (mkB x).toList = x := by rw [str_toList]; rfl
theorem toList_mkB (s : ByteArray) : mkB s.toList = s := by
  unfold mkB
  rw [str_toList]
theorem toList_inj {a b : ByteArray} (h : a.toList = b.toList) : a = b := by rw [← toList_mkB a, h, toList_mkB]
theorem enc_mkB (x : List UInt8) : Value.string (mkB x) = encStr x := rfl
theorem str_R {W : World} {base : Nat} {v : Value} {zs : List (List UInt8)} (h : Kd.R kStr 9 W base (fun _ => True) v zs) : Kd.R Kd.string 9 W base (fun _ => True) v (zs.map mkB) := by
  refine Kd.R_of_own (enc := Value.string) ?_ (fun _ _ => trivial)
  have h1 := Kd.own_of_R h
  rw [List.length_map]
  have e : encs Value.string (zs.map mkB) = encs encStr zs := by
    unfold encs
    rw [List.map_map]
    rfl
  rw [e]
  exact h1
theorem rd_int (l : List Int) (i : Nat) (hi : i < l.length) : Go.Proofs.YtohhlkabejangaaW.PrintWords.rd l (i : Int) = l[i] := by
  unfold Go.Proofs.YtohhlkabejangaaW.PrintWords.rd
  rw [Int.toNat_natCast, List.getD_eq_getElem?_getD, List.getElem?_eq_getElem hi]
  rfl
theorem ints_loop (xs : List Int) (hl : xs.length ≤ 1000) : ∀ (d i k : Nat), i + d = xs.length → d < k → weighlockplain_Ints.l0 k xs xs (xs.length : Int) (i : Int) = some true
  | 0, i, k, hi, hk => by
    obtain ⟨k, rfl⟩ : ∃ k', k = k' + 1 := ⟨k - 1, by omega⟩
    rw [weighlockplain_Ints.l0, if_neg (by omega)]
  | d + 1, i, k, hi, hk => by
    obtain ⟨k, rfl⟩ : ∃ k', k = k' + 1 := ⟨k - 1, by omega⟩
    rw [weighlockplain_Ints.l0, if_pos (by omega), if_pos (by omega), if_pos (by omega)]
    have := ints_loop xs hl d (i + 1) k (by omega) (by omega)
    rw [show ((i + 1 : Nat) : Int) = wrap64 ((i : Int) + 1) from (w64 _ (by omega) (by omega)).symm] at this
    rw [if_pos (by omega), if_pos rfl]
    exact this
theorem ints_calls (A B : Option Addr) (c d : Nat) (xs : List Int) (hl : xs.length ≤ 1000) (hc : xs.length ≤ c) (hd : xs.length ≤ d) (w : World) (hA : Kd.C (Kd.int .i64) w A xs.length xs) (hB : Kd.C (Kd.int .i64) w B xs.length xs) :
    Calls Try.prog 23 #[.slice A xs.length c, .slice B xs.length d] w fun e w' => e = .returned (.bool true) ∧ Below w.heap.size w w' := by
  have h : weighlockplain_Ints.f 1001 xs xs = some true := by
    unfold weighlockplain_Ints.f
    rw [if_pos rfl]
    exact ints_loop xs hl xs.length 0 1001 (by omega) (by omega)
  refine (weighlockplain_Ints.calls 1001 A c xs B d xs true w hA hc hB hd h).mono ?_
  rintro e w' ⟨rfl, hd⟩
  exact ⟨rfl, hd.below⟩
theorem texts_loop (xs : List ByteArray) (hl : xs.length ≤ 1000) : ∀ (d i k : Nat), i + d = xs.length → d < k → weighlockplain_Texts.l0 k xs xs (xs.length : Int) (i : Int) = some true
  | 0, i, k, hi, hk => by
    obtain ⟨k, rfl⟩ : ∃ k', k = k' + 1 := ⟨k - 1, by omega⟩
    rw [weighlockplain_Texts.l0, if_neg (by omega)]
  | d + 1, i, k, hi, hk => by
    obtain ⟨k, rfl⟩ : ∃ k', k = k' + 1 := ⟨k - 1, by omega⟩
    rw [weighlockplain_Texts.l0, if_pos (by omega), if_pos (by omega), if_pos (by omega)]
    have := texts_loop xs hl d (i + 1) k (by omega) (by omega)
    rw [show ((i + 1 : Nat) : Int) = wrap64 ((i : Int) + 1) from (w64 _ (by omega) (by omega)).symm] at this
    rw [if_pos (by omega), if_pos rfl]
    exact this
theorem texts_calls (A B : Option Addr) (c d : Nat) (xs : List ByteArray) (hl : xs.length ≤ 1000) (hc : xs.length ≤ c) (hd : xs.length ≤ d) (w : World) (hA : Kd.C Kd.string w A xs.length xs) (hB : Kd.C Kd.string w B xs.length xs) :
    Calls Try.prog 26 #[.slice A xs.length c, .slice B xs.length d] w fun e w' => e = .returned (.bool true) ∧ Below w.heap.size w w' := by
  have h : weighlockplain_Texts.f 1001 xs xs = some true := by
    unfold weighlockplain_Texts.f
    rw [if_pos rfl]
    exact texts_loop xs hl xs.length 0 1001 (by omega) (by omega)
  refine (weighlockplain_Texts.calls 1001 A c xs B d xs true w hA hc hB hd h).mono ?_
  rintro e w' ⟨rfl, hd⟩
  exact ⟨rfl, hd.below⟩
def largeB (l : List ByteArray) : Bool := decide (20 < l.length) || l.any (fun s => decide (100 < s.size))
theorem large_loop (l : List ByteArray) (hl : l.length ≤ 20) : ∀ (d i k : Nat), i + d = l.length → d < k → weighlocklaw28_large.l0 k l (l.length : Int) (i : Int) = some ((l.drop i).any (fun s => decide (100 < s.size)))
  | 0, i, k, hi, hk => by
    obtain ⟨k, rfl⟩ : ∃ k', k = k' + 1 := ⟨k - 1, by omega⟩
    rw [weighlocklaw28_large.l0, if_neg (by omega), List.drop_of_length_le (by omega)]
    rfl
  | d + 1, i, k, hi, hk => by
    obtain ⟨k, rfl⟩ : ∃ k', k = k' + 1 := ⟨k - 1, by omega⟩
    have hin : i < l.length := by omega
    rw [weighlocklaw28_large.l0, if_pos (by omega), if_pos (by omega), if_pos (by omega), rd_at l i hin, List.drop_eq_getElem_cons hin, List.any_cons]
    by_cases h : ((l[i].size : Int) > 100)
    · rw [if_pos h, decide_eq_true (show 100 < l[i].size by omega), Bool.true_or]
    · rw [if_neg h, decide_eq_false (show ¬ 100 < l[i].size by omega), Bool.false_or, w64 _ (by omega) (by omega)]
      exact large_loop l hl d (i + 1) k (by omega) (by omega)
theorem large_calls (A : Option Addr) (c : Nat) (l : List ByteArray) (w : World) (hA : Kd.C Kd.string w A l.length l) (hc : l.length ≤ c) :
    Calls Try.prog 16 #[.slice A l.length c] w fun e w' => e = .returned (.bool (largeB l)) ∧ Below w.heap.size w w' := by
  have h : weighlocklaw28_large.f 100 l = some (largeB l) := by
    unfold weighlocklaw28_large.f largeB
    by_cases h : (l.length : Int) > 20
    · rw [if_pos h, decide_eq_true (show 20 < l.length by omega), Bool.true_or]
    · rw [if_neg h, decide_eq_false (show ¬ 20 < l.length by omega), Bool.false_or]
      exact large_loop l (by omega) l.length 0 100 (by omega) (by omega)
  refine (weighlocklaw28_large.calls 100 A c l _ w hA hc h).mono ?_
  rintro e w' ⟨rfl, hd⟩
  exact ⟨rfl, hd.below⟩
theorem large_no {l : List ByteArray} (h : largeB l = false) : l.length ≤ 20 ∧ ∀ s ∈ l, s.size ≤ 100 := by
  unfold largeB at h
  rw [Bool.or_eq_false_iff, decide_eq_false_iff_not, List.any_eq_false] at h
  exact ⟨by omega, fun s hs => by have := h.2 s hs; simp at this; omega⟩
theorem rank_loop (l : List ByteArray) (m : ByteArray) (hl : l.length ≤ 1000) : ∀ (d i k n : Nat), i + d = l.length → d < k → n ≤ i → weighlockref28_Rank.l0 k m (n : Int) l (l.length : Int) (i : Int) = some ((n + rkL (l.drop i) m.toList : Nat) : Int)
  | 0, i, k, n, hi, hk, hn => by
    obtain ⟨k, rfl⟩ : ∃ k', k = k' + 1 := ⟨k - 1, by omega⟩
    rw [weighlockref28_Rank.l0, if_neg (by omega), List.drop_of_length_le (by omega)]
    rfl
  | d + 1, i, k, n, hi, hk, hn => by
    obtain ⟨k, rfl⟩ : ∃ k', k = k' + 1 := ⟨k - 1, by omega⟩
    have hin : i < l.length := by omega
    have e1 : ∀ x, rkL (l.drop i) x = rkL (l.drop (i + 1)) x + if l[i].toList < x then 1 else 0 := fun x => by
      unfold rkL
      rw [List.drop_eq_getElem_cons hin, List.map_cons, List.countP_cons]
      simp only [decide_eq_true_eq]
    rw [weighlockref28_Rank.l0, if_pos (by omega), if_pos (by omega), if_pos (by omega), rd_at l i hin, e1]
    have hb : Op.bytesLess l[i].toList m.toList = decide (l[i].toList < m.toList) := bytesLess_eq _ _
    by_cases h : l[i].toList < m.toList
    · rw [if_pos (by rw [hb]; exact decide_eq_true h), if_pos h, w64 _ (by omega) (by omega), w64 _ (by omega) (by omega)]
      have := rank_loop l m hl d (i + 1) k (n + 1) (by omega) (by omega) (by omega)
      rw [show n + 1 + rkL (l.drop (i + 1)) m.toList = n + (rkL (l.drop (i + 1)) m.toList + 1) by omega] at this
      exact this
    · rw [if_neg (by rw [hb, decide_eq_false h]; decide), if_neg h, w64 _ (by omega) (by omega)]
      exact rank_loop l m hl d (i + 1) k n (by omega) (by omega) (by omega)
theorem rank_f (l : List ByteArray) (m : ByteArray) (hl : l.length ≤ 1000) (k : Nat) (hk : l.length < k) : weighlockref28_Rank.f k l m = some (rkL l m.toList : Int) := by
  unfold weighlockref28_Rank.f
  have := rank_loop l m hl l.length 0 k 0 (by omega) hk (by omega)
  rw [Nat.zero_add] at this
  exact this
theorem rkL_le (l : List ByteArray) (x : List UInt8) : rkL l x ≤ l.length := by
  unfold rkL
  have := List.countP_le_length (p := fun y => decide (y < x)) (l := l.map (·.toList))
  rwa [List.length_map] at this
theorem rank_calls (A : Option Addr) (c : Nat) (l : List ByteArray) (m : ByteArray) (hl : l.length ≤ 1000) (hc : l.length ≤ c) (w : World) (hA : Kd.C Kd.string w A l.length l) :
    Calls Try.prog 22 #[.slice A l.length c, .string m] w fun e w' => e = .returned (.int .i64 (rkL l m.toList)) ∧ Below w.heap.size w w' := by
  refine (weighlockref28_Rank.calls 1001 A c l m _ w hA hc (rank_f l m hl 1001 (by omega))).mono ?_
  rintro e w' ⟨rfl, hd⟩
  exact ⟨rfl, hd.below⟩
theorem cnt_int (n s i : Nat) (hs : 0 < s) (hn : n ≤ 1000) (hs2 : s ≤ 1000) : (if (i : Int) < Int.tmod (n : Int) (s : Int) then wrap64 (wrap64 (Int.tdiv (n : Int) (s : Int)) + 1) else wrap64 (Int.tdiv (n : Int) (s : Int))) = (cntG n s i : Int) := by
  have h1 : Int.tmod (n : Int) (s : Int) = ((n % s : Nat) : Int) := rfl
  have h2 : Int.tdiv (n : Int) (s : Int) = ((n / s : Nat) : Int) := rfl
  have h3 : n / s ≤ n := Nat.div_le_self _ _
  rw [h1, h2]
  unfold cntG
  generalize n / s = q at *
  generalize n % s = r at *
  rw [w64 (q : Int) (by omega) (by omega), w64 _ (by omega) (by omega)]
  by_cases h : i < r
  · rw [if_pos (by omega), if_pos h]; omega
  · rw [if_neg (by omega), if_neg h]; omega
theorem of_loop1 (a : Nat) (ha : a ≤ 100000) (c : Nat) (hc : c ≤ 100000) : ∀ (d i k : Nat), i + d = c → d < k → weighlockref28_Of.l1 k (a : Int) (numsG a i) (c : Int) (i : Int) = some (numsG a c)
  | 0, i, k, hi, hk => by
    obtain ⟨k, rfl⟩ : ∃ k', k = k' + 1 := ⟨k - 1, by omega⟩
    rw [weighlockref28_Of.l1, if_neg (by omega)]
    rw [show i = c by omega]
  | d + 1, i, k, hi, hk => by
    obtain ⟨k, rfl⟩ : ∃ k', k = k' + 1 := ⟨k - 1, by omega⟩
    rw [weighlockref28_Of.l1, if_pos (by omega), if_pos (by rw [numsG_length]; omega), w64 _ (by omega) (by omega), w64 _ (by omega) (by omega)]
    have := of_loop1 a ha c hc d (i + 1) k (by omega) (by omega)
    rw [numsG_succ] at this
    exact this
theorem startG_small (n s i : Nat) (hs : 0 < s) (hi : i ≤ s) (hn : n ≤ 1000) : startG n s i ≤ 1000 := Nat.le_trans (startG_le n s hs i hi) hn
theorem cntG_small (n s i : Nat) : cntG n s i ≤ n + 1 := by
  unfold cntG
  have := Nat.div_le_self n s
  split <;> omega
theorem of_loop0 (l : List ByteArray) (n r : Nat) (hn : n ≤ 1000) (hl : l.length ≤ 1000) (hr : r ≤ l.length) : ∀ (d i k z : Nat), i + d = l.length → 2 * d + 2000 < k → (z = if r < i then cntG n l.length r else 0) →
    weighlockref28_Of.l0 k l (n : Int) (r : Int) (startG n l.length (min i r)) (z : Int) (l.length : Int) (i : Int) = some (numsG (startG n l.length r) (if r < l.length then cntG n l.length r else 0))
  | 0, i, k, z, hi, hk, hz => by
    obtain ⟨k, rfl⟩ : ∃ k', k = k' + 1 := ⟨k - 1, by omega⟩
    rw [weighlockref28_Of.l0, if_neg (by omega)]
    have hi' : i = l.length := by omega
    subst hi'
    rw [Nat.min_eq_right hr, ← hz]
    have hst : startG n l.length r ≤ 100000 := by
      rcases Nat.eq_zero_or_pos l.length with h0 | h0
      · have : r = 0 := by omega
        subst this; unfold startG; omega
      · have := startG_small n l.length r h0 hr hn; omega
    have hzz : z ≤ 1001 := by rw [hz]; have := cntG_small n l.length r; split <;> omega
    exact of_loop1 _ hst z (by omega) z 0 k (by omega) (by omega)
  | d + 1, i, k, z, hi, hk, hz => by
    obtain ⟨k, rfl⟩ : ∃ k', k = k' + 1 + 1 := ⟨k - 2, by omega⟩
    have hin : i < l.length := by omega
    have h0 : 0 < l.length := by omega
    have hcs := cntG_small n l.length i
    have hst := startG_small n l.length i h0 (by omega) hn
    have hc := cnt_int n l.length i h0 hn hl
    have key : ∀ v : Int, v = (cntG n l.length i : Int) → weighlockref28_Of.j1 (k + 1) l (n : Int) (r : Int) (startG n l.length (min i r)) (z : Int) (i : Int) v (l.length : Int) (i : Int) = some (numsG (startG n l.length r) (if r < l.length then cntG n l.length r else 0)) := by
      rintro v rfl
      rw [weighlockref28_Of.j1]
      have ih := fun z' hz' => of_loop0 l n r hn hl hr d (i + 1) k z' (by omega) (by omega) hz'
      by_cases h1 : i < r
      · rw [if_pos (by omega), if_neg (by omega), Nat.min_eq_left (by omega), w64 _ (by omega) (by omega), w64 _ (by omega) (by omega)]
        have := ih z (by rw [hz, if_neg (by omega), if_neg (by omega)])
        rw [Nat.min_eq_left (show i + 1 ≤ r by omega)] at this
        exact this
      · rw [if_neg (by omega), w64 _ (by omega) (by omega)]
        by_cases h2 : i = r
        · subst h2
          rw [if_pos rfl, Nat.min_self]
          have := ih (cntG n l.length i) (by rw [if_pos (by omega)])
          rw [Nat.min_eq_right (show i ≤ i + 1 by omega)] at this
          exact this
        · rw [if_neg (by omega), Nat.min_eq_right (by omega)]
          have := ih z (by rw [hz, if_pos (by omega), if_pos (by omega)])
          rw [Nat.min_eq_right (show r ≤ i + 1 by omega)] at this
          exact this
    rw [weighlockref28_Of.l0, if_pos (by omega), if_neg (by omega)]
    split
    · rename_i h
      rw [if_pos h] at hc
      exact key _ hc
    · rename_i h
      rw [if_neg h] at hc
      exact key _ hc
theorem of_f (l : List ByteArray) (n : Nat) (m : ByteArray) (hl : l.length ≤ 1000) (hn : n ≤ 1000) : weighlockref28_Of.f 5000 l (n : Int) m = some (ofL l n m.toList) := by
  unfold weighlockref28_Of.f
  rw [rank_f l m hl 5000 (by omega), Option.bind_some]
  have := of_loop0 l n (rkL l m.toList) hn hl (rkL_le l _) l.length 0 5000 0 (by omega) (by omega) (by rw [if_neg (by omega)])
  rw [Nat.zero_min] at this
  exact this
theorem rof_calls (A : Option Addr) (c : Nat) (l : List ByteArray) (n : Nat) (m : ByteArray) (hl : l.length ≤ 1000) (hn : n ≤ 1000) (hc : l.length ≤ c) (w : World) (hA : Kd.C Kd.string w A l.length l) :
    Calls Try.prog 24 #[.slice A l.length c, .int .i64 (n : Int), .string m] w fun e w' => ∃ v, e = .returned v ∧ Kd.R (Kd.int .i64) 3 w' w.heap.size (fun _ => True) v (ofL l n m.toList) ∧ Below w.heap.size w w' := by
  exact weighlockref28_Of.calls 5000 A c l n m _ w hA hc (of_f l n m hl hn)
/-! the reference's Wrong -/
theorem wrong_loop2 (l : List ByteArray) (hl : l.length ≤ 1000) (i : Nat) (hi : i < l.length) : ∀ (d j k : Nat), j + d = i → d < k → (∀ a, a < j → ∀ h : a < l.length, l[i] ≠ l[a]) →
    (∀ a, ∀ h : a < i, l[i] ≠ l[a]) ∧ weighlockref28_Wrong.l2 k l l[i] l (l.length : Int) (i : Int) (l.take i) (i : Int) (j : Int) = weighlockref28_Wrong.l1 (k - d - 1) l l (l.length : Int) ((i + 1 : Nat) : Int) ∨ (∃ a, ∃ h : a < i, l[i] = l[a]) ∧ weighlockref28_Wrong.l2 k l l[i] l (l.length : Int) (i : Int) (l.take i) (i : Int) (j : Int) = some 8
  | 0, j, k, hj, hk, hd => by
    obtain ⟨k, rfl⟩ : ∃ k', k = k' + 1 := ⟨k - 1, by omega⟩
    refine .inl ⟨fun a h => hd a (by omega) (by omega), ?_⟩
    rw [weighlockref28_Wrong.l2, if_neg (by omega), w64 _ (by omega) (by omega)]
    rfl
  | d + 1, j, k, hj, hk, hd => by
    obtain ⟨k, rfl⟩ : ∃ k', k = k' + 1 := ⟨k - 1, by omega⟩
    have hjl : j < (l.take i).length := by rw [List.length_take]; omega
    rw [weighlockref28_Wrong.l2, if_pos (by omega), if_pos (by omega), if_pos (by omega), rd_at (l.take i) j hjl, List.getElem_take]
    by_cases e : l[i].toList = l[j].toList
    · rw [if_pos e]
      exact .inr ⟨⟨j, by omega, toList_inj e⟩, rfl⟩
    · rw [if_neg e, w64 _ (by omega) (by omega)]
      have := wrong_loop2 l hl i hi d (j + 1) k (by omega) (by omega) (fun a ha hal => by
        rcases Nat.lt_or_ge a j with h | h
        · exact hd a h hal
        · obtain rfl : a = j := by omega
          exact fun he => e (by rw [he]))
      rw [show k + 1 - (d + 1) - 1 = k - d - 1 by omega]
      exact this
theorem wrong_loop1 (l : List ByteArray) (hl : l.length ≤ 1000) : ∀ (d i k : Nat), i + d = l.length → 2000 * (d + 1) < k → (l.take i).Nodup → weighlockref28_Wrong.l1 k l l (l.length : Int) (i : Int) = some (if l.Nodup then 0 else 8)
  | 0, i, k, hi, hk, hn => by
    obtain ⟨k, rfl⟩ : ∃ k', k = k' + 1 := ⟨k - 1, by omega⟩
    rw [weighlockref28_Wrong.l1, if_neg (by omega)]
    rw [List.take_of_length_le (by omega)] at hn
    rw [if_pos hn]
  | d + 1, i, k, hi, hk, hn => by
    obtain ⟨k, rfl⟩ : ∃ k', k = k' + 1 := ⟨k - 1, by omega⟩
    have hin : i < l.length := by omega
    have e1 : ((l.take (i : Int).toNat).length : Int) = (i : Int) := by rw [Int.toNat_natCast, List.length_take]; omega
    rw [weighlockref28_Wrong.l1, if_pos (by omega), if_pos (by omega), if_pos (by omega), if_pos (by omega), rd_at l i hin, e1, Int.toNat_natCast]
    rcases wrong_loop2 l hl i hin i 0 k (by omega) (by omega) (fun a ha => absurd ha (by omega)) with ⟨h1, h2⟩ | ⟨⟨a, ha, h1⟩, h2⟩
    · have h2' : weighlockref28_Wrong.l2 k l l[i] l (l.length : Int) (i : Int) (l.take i) (i : Int) 0 = _ := h2
      rw [h2']
      refine wrong_loop1 l hl d (i + 1) (k - i - 1) (by omega) (by omega) ?_
      rw [List.take_add_one, List.getElem?_eq_getElem hin]
      refine List.nodup_append.2 ⟨hn, by simp, ?_⟩
      intro x hx y hy e
      have hy' : y = l[i] := by simpa using hy
      obtain ⟨a, ha, he⟩ := List.getElem_of_mem hx
      rw [List.length_take] at ha
      rw [List.getElem_take] at he
      exact h1 a (by omega) (by rw [he, e, hy'])
    · have h2' : weighlockref28_Wrong.l2 k l l[i] l (l.length : Int) (i : Int) (l.take i) (i : Int) 0 = _ := h2
      rw [h2', if_neg]
      intro hnd
      rw [List.Nodup, List.pairwise_iff_getElem] at hnd
      exact hnd a i (by omega) hin ha h1.symm
theorem wrong_loop0 (l : List ByteArray) (hl : l.length ≤ 1000) (hz : ∀ s ∈ l, s.size ≤ 1000) : ∀ (d i k : Nat), i + d = l.length → 2000 * (l.length + 2) + d < k → (l.take i).all nameB = true →
    weighlockref28_Wrong.l0 k l l (l.length : Int) (i : Int) = some (if l.all nameB = true then (if l.Nodup then 0 else 8) else 1)
  | 0, i, k, hi, hk, hn => by
    obtain ⟨k, rfl⟩ : ∃ k', k = k' + 1 := ⟨k - 1, by omega⟩
    rw [weighlockref28_Wrong.l0, if_neg (by omega)]
    rw [List.take_of_length_le (by omega)] at hn
    rw [if_pos hn]
    exact wrong_loop1 l hl l.length 0 k (by omega) (by omega) (by simp)
  | d + 1, i, k, hi, hk, hn => by
    obtain ⟨k, rfl⟩ : ∃ k', k = k' + 1 := ⟨k - 1, by omega⟩
    have hin : i < l.length := by omega
    have hsz := hz l[i] (List.getElem_mem hin)
    rw [weighlockref28_Wrong.l0, if_pos (by omega), if_pos (by omega), if_pos (by omega), rd_at l i hin, ref_name l[i] (by omega) k (by omega), Option.bind_some]
    by_cases h : nameB l[i] = true
    · rw [if_pos h, w64 _ (by omega) (by omega)]
      refine wrong_loop0 l hl hz d (i + 1) k (by omega) (by omega) ?_
      rw [List.take_add_one, List.getElem?_eq_getElem hin, List.all_append, hn]
      simp [h]
    · rw [if_neg h, if_neg]
      intro hall
      exact h (List.all_eq_true.1 hall _ (List.getElem_mem hin))
theorem nodup_str (l : List ByteArray) : (l.map (·.toList)).Nodup ↔ l.Nodup := by
  rw [List.Nodup, List.pairwise_map]
  constructor
  · exact fun h => h.imp (fun h e => h (by rw [e]))
  · exact fun h => h.imp (fun h e => h (toList_inj e))
theorem rwrong_calls (A : Option Addr) (c : Nat) (l : List ByteArray) (hl : l.length ≤ 1000) (hz : ∀ s ∈ l, s.size ≤ 1000) (hc : l.length ≤ c) (w : World) (hA : Kd.C Kd.string w A l.length l) :
    Calls Try.prog 21 #[.slice A l.length c] w fun e w' => e = .returned (.int .i64 (wrongL l)) ∧ Below w.heap.size w w' := by
  have h : weighlockref28_Wrong.f 10000000 l = some (wrongL l) := by
    unfold weighlockref28_Wrong.f
    have := wrong_loop0 l hl hz l.length 0 10000000 (by omega) (by omega) rfl
    rw [show ((0 : Nat) : Int) = 0 from rfl] at this
    rw [this]
    unfold wrongL
    simp only [nodup_str]
  refine (weighlockref28_Wrong.calls 10000000 A c l _ w hA hc h).mono ?_
  rintro e w' ⟨rfl, hd⟩
  exact ⟨rfl, hd.below⟩
end Go.Proofs.Ytohhlkabejangaa.As
