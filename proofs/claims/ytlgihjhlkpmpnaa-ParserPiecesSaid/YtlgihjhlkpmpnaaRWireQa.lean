import Derived.Test.YtlgihjhlkpmpnaaRWirePe
namespace Go.Proofs.Ytlgihjhlkpmpnaa.Wire
set_option linter.unusedVariables false
set_option linter.unusedSimpArgs false
open Go.RowKit Go.Proofs.YtlgihjhlkpmpnaaW.PrintWords Go.Proofs.YtlgihjhlkpmpnaaW.PrintLast Go.Proofs.YtlgihjhlkpmpnaaW.PrintMore Go.Proofs.Ytlgihjhlkpmpnaa.Hand Go.Proofs.Ytlgihjhlkpmpnaa.PWire Go.Proofs.Ytlgihjhlkpmpnaa.PureNums
/-! The plain law of pieces: what a parser tells of a ++ b is what it tells of a, and then of the rest and b. -/
abbrev RQ := Rq × List S102
noncomputable def tellN : Nat → ByteArray → Bool → List RQ × ByteArray × Bool
  | 0, h, b => ([], h, b)
  | k + 1, h, b => if (nextD h b).err = 0 then (((nextD h b).y, (nextD h b).ps) :: (tellN k (nextH h b) (nextB h b)).1, (tellN k (nextH h b) (nextB h b)).2) else ([], nextH h b, nextB h b)
theorem ext_front (a b : ByteArray) (i j : Nat) (h : j ≤ a.size) : (a ++ b).extract i j = a.extract i j := by
  apply ByteArray.ext
  rw [ByteArray.data_extract, ByteArray.data_extract, ByteArray.data_append]
  apply Array.ext'
  have hz : a.data.toList.length = a.size := data_length a
  rw [Array.toList_extract, Array.toList_extract, Array.toList_append, List.extract_eq_take_drop, List.extract_eq_take_drop]
  have e : List.take (j - i) (List.drop i (a.data.toList ++ b.data.toList)) = List.take (j - i) (List.drop i a.data.toList) := by
    rcases Nat.lt_or_ge i j with hij | hij
    · rw [List.drop_append_of_le_length (by omega), List.take_append_of_le_length (by rw [List.length_drop]; omega)]
    · rw [show j - i = 0 by omega]
      rfl
  exact e
theorem ext_back (a b : ByteArray) (i : Nat) (h : i ≤ a.size) : (a ++ b).extract i (a ++ b).size = a.extract i a.size ++ b := by
  apply ByteArray.ext
  rw [ByteArray.data_extract, ByteArray.data_append, ByteArray.data_append, ByteArray.data_extract, ByteArray.size_append]
  apply Array.ext'
  have hz : a.data.toList.length = a.size := data_length a
  have hy : b.data.toList.length = b.size := data_length b
  rw [Array.toList_extract, Array.toList_append, Array.toList_append, Array.toList_extract, List.extract_eq_take_drop, List.extract_eq_take_drop, List.drop_append_of_le_length (by omega)]
  rw [List.take_of_length_le (by rw [List.length_append, List.length_drop]; omega), List.take_of_length_le (by rw [List.length_drop]; omega)]
theorem bt_front (a b : ByteArray) (i : Nat) (h : i < a.size) : bt (a ++ b) (i : Int) = bt a (i : Int) := by
  have h1 := bt_extract (a ++ b) 0 a.size i (by omega) (by rw [ByteArray.size_append]; omega)
  rw [ext_front a b 0 a.size (Nat.le_refl _)] at h1
  have h2 := bt_extract a 0 a.size i (by omega) (Nat.le_refl _)
  rw [Nat.zero_add] at h1 h2
  exact h1.symm.trans h2
theorem be2_front (a b : ByteArray) (i : Nat) (h : i + 1 < a.size) : be2 (a ++ b) i = be2 a i := by
  unfold be2
  rw [bt_front a b i (by omega), bt_front a b (i + 1) h]
theorem dec_front (a b : ByteArray) (h : (decW a).err ≠ 3) : decW (a ++ b) = decW a := by
  have hr := be2_range a 0
  have h2 : 2 ≤ a.size := Nat.le_of_not_lt fun hlt => h (by
    have hp : peekI a = 0 := by unfold peekI; rw [if_pos hlt]
    unfold decW
    rw [hp, if_neg (by omega), if_pos (.inl rfl)])
  have hpa : peekI a = be2 a 0 + 2 := by unfold peekI; rw [if_neg (by omega)]
  have hp : peekI (a ++ b) = peekI a := by
    unfold peekI
    rw [ByteArray.size_append, if_neg (by omega), if_neg (by omega), be2_front a b 0 (by omega)]
  by_cases h3 : peekI a > 1000
  · unfold decW
    rw [hp, if_pos h3, if_pos h3]
  have h4 : ¬ (peekI a = 0 ∨ (a.size : Int) < peekI a) := fun hh => h (by
    unfold decW
    rw [if_neg h3, if_pos hh])
  have h5 : ¬ (peekI (a ++ b) = 0 ∨ ((a ++ b).size : Int) < peekI (a ++ b)) := by
    rw [hp, ByteArray.size_append]
    omega
  by_cases h6 : peekI a < 5
  · unfold decW
    rw [if_neg h5, if_neg h4, hp, if_neg h3, if_neg h3, if_pos h6, if_pos h6]
  have hsz : 5 ≤ a.size := by omega
  have hst : decSt (a ++ b) = decSt a := by
    unfold decSt
    have e2 := bt_front a b 2 (by omega)
    rw [hp, show ((2 : Nat) : Int) = 2 from rfl] at *
    rw [e2, be2_front a b 3 (by omega), ext_front a b 5 _ (by omega)]
  unfold decW
  rw [if_neg h5, if_neg h4, hst, hp]
theorem cut_front (a b : ByteArray) (h : (decW a).err = 0) : cutS (a ++ b) = cutS a ++ b := by
  have hd := dec_front a b (by rw [h]; decide)
  have hn : (decW a).n ≤ a.size ∧ 0 ≤ (decW a).n := by
    rcases dec_cases a with ⟨_, h, _⟩ | ⟨_, _, h1, _, h2, _⟩ <;> omega
  unfold cutS
  rw [hd]
  exact ext_back a b _ (by omega)
theorem cut_same (a : ByteArray) (h : (decW a).err ≠ 0) : cutS a = a := by
  have hn : (decW a).n = 0 := by
    rcases dec_cases a with ⟨_, h, _⟩ | ⟨h0, _⟩
    · exact h
    · exact absurd h0 h
  unfold cutS
  rw [hn]
  exact ByteArray.extract_zero_size
theorem cut_less (a : ByteArray) (h : (decW a).err = 0) : (cutS a).size + 5 ≤ a.size := by
  unfold cutS
  rw [ByteArray.size_extract]
  rcases dec_cases a with ⟨h0, _⟩ | ⟨_, _, h1, _, h2, _⟩ <;> omega
theorem tell_true (k : Nat) (h : ByteArray) : tellN k h true = ([], h, true) := by
  cases k with
  | zero => rfl
  | succ k =>
    show (if (38 : Int) = 0 then _ else _) = _
    rw [if_neg (by decide)]
    rfl
theorem tell_ok (k : Nat) (h : ByteArray) (he : (decW h).err = 0) : tellN (k + 1) h false = (((decW h).y, (decW h).ps) :: (tellN k (cutS h) false).1, (tellN k (cutS h) false).2) := by
  have hb : nextB h false = false := by
    show ((decW h).err == 38) = false
    rw [he]
    rfl
  show (if (decW h).err = 0 then (((decW h).y, (decW h).ps) :: (tellN k (cutS h) (nextB h false)).1, (tellN k (cutS h) (nextB h false)).2) else _) = _
  rw [if_pos he, hb]
theorem tell_not (k : Nat) (h : ByteArray) (he : (decW h).err ≠ 0) : tellN (k + 1) h false = ([], h, (decW h).err == 38) := by
  show (if (decW h).err = 0 then _ else ([], cutS h, ((decW h).err == 38))) = _
  rw [if_neg he, cut_same h he]
theorem tell_stable : ∀ (k k' : Nat) (h : ByteArray), h.size < 5 * k → h.size < 5 * k' → tellN k h false = tellN k' h false
  | 0, _, h, h1, _ => absurd h1 (by omega)
  | _, 0, h, _, h2 => absurd h2 (by omega)
  | k + 1, k' + 1, h, h1, h2 => by
    by_cases he : (decW h).err = 0
    · have hl := cut_less h he
      rw [tell_ok k h he, tell_ok k' h he, tell_stable k k' (cutS h) (by omega) (by omega)]
    · rw [tell_not k h he, tell_not k' h he]
theorem tell_size : ∀ (k : Nat) (h : ByteArray), (tellN k h false).2.1.size ≤ h.size
  | 0, h => Nat.le_refl _
  | k + 1, h => by
    by_cases he : (decW h).err = 0
    · have hl := cut_less h he
      rw [tell_ok k h he]
      exact Nat.le_trans (tell_size k (cutS h)) (by omega)
    · rw [tell_not k h he]
      exact Nat.le_refl _
theorem tell_len : ∀ (k : Nat) (h : ByteArray) (b : Bool), (tellN k h b).1.length ≤ k
  | 0, h, b => Nat.le_refl _
  | k + 1, h, b => by
    unfold tellN
    split
    · simp only [List.length_cons]
      exact Nat.succ_le_succ (tell_len k _ _)
    · exact Nat.zero_le _
/-- one behind the other -/
theorem tell_split : ∀ (k : Nat) (a b : ByteArray), a.size + b.size < 5 * k →
    (tellN k (a ++ b) false).1 = (tellN k a false).1 ++ (tellN k ((tellN k a false).2.1 ++ (if (tellN k a false).2.2 then ⟨#[]⟩ else b)) (tellN k a false).2.2).1 ∧
    (tellN k (a ++ b) false).2.2 = (tellN k ((tellN k a false).2.1 ++ (if (tellN k a false).2.2 then ⟨#[]⟩ else b)) (tellN k a false).2.2).2.2
  | 0, a, b, h => absurd h (by omega)
  | k + 1, a, b, h => by
    by_cases he : (decW a).err = 0
    · have hd := dec_front a b (by rw [he]; decide)
      have hl := cut_less a he
      have hs := tell_size k (cutS a)
      have ih := tell_split k (cutS a) b (by omega)
      rw [tell_ok k (a ++ b) (by rw [hd]; exact he), tell_ok k a he, cut_front a b he, hd]
      simp only
      generalize tellN k (cutS a) false = t at *
      obtain ⟨L, r, c⟩ := t
      simp only at ih hs ⊢
      cases c with
      | true =>
        simp only [if_true, tell_true] at ih ⊢
        rw [ih.1, ih.2]
        exact ⟨rfl, rfl⟩
      | false =>
        simp only [Bool.false_eq_true, if_false] at ih ⊢
        rw [tell_stable (k + 1) k (r ++ b) (by rw [ByteArray.size_append]; omega) (by rw [ByteArray.size_append]; omega)]
        rw [ih.1, ih.2]
        exact ⟨rfl, rfl⟩
    · rw [tell_not k a he]
      simp only
      by_cases h3 : (decW a).err = 3
      · rw [h3, show ((3 : Int) == 38) = false from rfl]
        simp only [Bool.false_eq_true, if_false, List.nil_append]
        exact ⟨trivial, trivial⟩
      · have h38 : (decW a).err = 38 := by
          rcases dec_cases a with ⟨h, _⟩ | ⟨h0, _⟩
          · omega
          · exact absurd h0 he
        have hd := dec_front a b h3
        rw [tell_not k (a ++ b) (by rw [hd]; exact he), hd, h38, show ((38 : Int) == 38) = true from rfl]
        simp only [if_true, tell_true, List.nil_append]
        exact ⟨trivial, trivial⟩
end Go.Proofs.Ytlgihjhlkpmpnaa.Wire
