import Derived.Test.YtgojaomldkgojaaDd2
namespace Go.Proofs.Ytgojaomldkgojaa.Dd
set_option linter.unusedVariables false
set_option linter.unusedSimpArgs false
open Go.RowKit Go.Maps Go.Proofs.YtgojaomldkgojaaW.PrintWords Go.Proofs.YtgojaomldkgojaaW.PrintLast Go.Proofs.YtgojaomldkgojaaW.PrintMore Go.Proofs.Ytgojaomldkgojaa.PDd Go.Proofs.Ytgojaomldkgojaa.Hand Go.Proofs.Ytgojaomldkgojaa.PureNums
/-! What the reference's printed functions compute. -/
theorem rd_at (l : List La) (i : Nat) (h : i < l.length) : rd_T43 l (i : Int) = l[i] := by
  unfold rd_T43
  rw [Int.toNat_natCast, List.getD_eq_getElem?_getD, List.getElem?_eq_getElem h]
  rfl
theorem find_loop (l : List La) (p : Int) (hl : l.length ≤ 1000) : ∀ (d i k : Nat), i + d = l.length → d < k → (∀ (j : Nat) (hj : j < l.length), j < i → l[j].f0 ≠ p) →
    ∃ r, weighlockref18_Find.l0 k p l (l.length : Int) (i : Int) = some r ∧ ((r = -1 ∧ ∀ y ∈ l, y.f0 ≠ p) ∨ ∃ (j : Nat) (hj : j < l.length), r = (j : Int) ∧ l[j].f0 = p)
  | 0, i, k, hi, hk, hb => by
    obtain ⟨k, rfl⟩ : ∃ k', k = k' + 1 := ⟨k - 1, by omega⟩
    refine ⟨-1, by rw [weighlockref18_Find.l0, if_neg (by omega)], .inl ⟨rfl, fun y hy => ?_⟩⟩
    obtain ⟨j, hj, rfl⟩ := List.getElem_of_mem hy
    exact hb j hj (by omega)
  | d + 1, i, k, hi, hk, hb => by
    obtain ⟨k, rfl⟩ : ∃ k', k = k' + 1 := ⟨k - 1, by omega⟩
    have hin : i < l.length := by omega
    rw [weighlockref18_Find.l0, if_pos (by omega), if_pos (by omega), if_pos (by omega), rd_at l i hin]
    by_cases c : l[i].f0 = p
    · rw [if_pos c]
      exact ⟨i, rfl, .inr ⟨i, hin, rfl, c⟩⟩
    · rw [if_neg c, w64 _ (by omega) (by omega)]
      exact find_loop l p hl d (i + 1) k (by omega) (by omega) (fun j hj hji => by
        rcases Nat.lt_or_ge j i with h | h
        · exact hb j hj h
        · obtain rfl : j = i := by omega
          exact c)
theorem find_spec (l : List La) (p : Int) (h : Ris l) (hl : l.length ≤ 1000) (k : Nat) (hk : 1001 ≤ k) :
    ∃ r, weighlockref18_Find.f k l p = some r ∧ ((r = -1 ∧ findL l p = none) ∨ ∃ (j : Nat) (hj : j < l.length), r = (j : Int) ∧ findL l p = some l[j]) := by
  obtain ⟨r, e, hr⟩ := find_loop l p hl l.length 0 k (by omega) (by omega) (fun j _ hj => absurd hj (Nat.not_lt_zero _))
  refine ⟨r, e, ?_⟩
  rcases hr with ⟨rfl, h1⟩ | ⟨j, hj, rfl, h1⟩
  · exact .inl ⟨rfl, (find_none l p).2 h1⟩
  · refine .inr ⟨j, hj, rfl, ?_⟩
    rw [← h1]
    exact find_at l h j hj
theorem note_loop (l : List La) (x : La) (h : Ris l) (hl : l.length ≤ 1000) : ∀ (d i k : Nat) (pt : Bool) (acc : List La), i + d = l.length → 2 * d < k → acc.length ≤ 2 * i → (pt = true → ∀ y ∈ l.drop i, y.f0 ≠ x.f0) →
    weighlockref18_Note.l0 k acc pt l (l.length : Int) (i : Int) x.f0 x.f1 x.f2 x.f3 = some (acc ++ (if pt = true then l.drop i else noteL (l.drop i) x), 0)
  | 0, i, k, pt, acc, hi, hk, ha, hp => by
    obtain ⟨k, rfl⟩ : ∃ k', k = k' + 1 := ⟨k - 1, by omega⟩
    rw [weighlockref18_Note.l0, if_neg (by omega), List.drop_eq_nil_of_le (by omega)]
    cases pt with
    | true => rw [if_pos rfl, if_pos rfl, List.append_nil]
    | false =>
      simp only [Bool.false_eq_true, if_false]
      rw [if_pos (by omega)]
      rfl
  | d + 1, i, k, pt, acc, hi, hk, ha, hp => by
    obtain ⟨k, rfl⟩ : ∃ k', k = k' + 2 := ⟨k - 2, by omega⟩
    have hin : i < l.length := by omega
    have hdr : l.drop i = l[i] :: l.drop (i + 1) := List.drop_eq_getElem_cons hin
    have hw : wrap64 ((i : Int) + 1) = ((i + 1 : Nat) : Int) := w64 _ (by omega) (by omega)
    have hrs : ∀ y ∈ l.drop (i + 1), l[i].f0 < y.f0 := by
      have h9 : Ris (l.drop i) := List.Pairwise.sublist (List.drop_sublist i l) h
      rw [hdr] at h9
      exact (List.pairwise_cons.1 h9).1
    rw [weighlockref18_Note.l0, if_pos (by omega), if_pos (by omega), if_pos (by omega), rd_at l i hin]
    cases pt with
    | true =>
      have hne := hp rfl l[i] (by rw [hdr]; exact List.mem_cons_self)
      rw [if_pos rfl, weighlockref18_Note.j3, if_neg (by decide), if_neg hne, if_pos (by omega), hw]
      rw [note_loop l x h hl d (i + 1) k true (acc ++ [(⟨l[i].f0, l[i].f1, l[i].f2, l[i].f3⟩ : La)]) (by omega) (by omega) (by simp; omega) (fun _ y hy => hp rfl y (by rw [hdr]; exact List.mem_cons_of_mem _ hy)), if_pos rfl, if_pos rfl, hdr]
      first | (simp only [List.append_assoc, List.cons_append, List.nil_append]; done) | (simp only [List.append_assoc, List.cons_append, List.nil_append]; rfl)
    | false =>
      rw [if_neg (by decide), weighlockref18_Note.j3, if_neg (show ¬ (false = true) by decide), hdr, noteL]
      by_cases c1 : x.f0 < l[i].f0
      · rw [if_pos (show decide (l[i].f0 ≥ x.f0) = true from decide_eq_true (by omega)), if_pos (by omega), Option.bind_some, if_neg (by omega), if_pos (by simp; omega), hw, if_pos c1]
        rw [note_loop l x h hl d (i + 1) k true _ (by omega) (by omega) (by simp; omega) (fun _ y hy => by have := hrs y hy; omega), if_pos rfl]
        first | (simp only [List.append_assoc, List.cons_append, List.nil_append]; done) | (simp only [List.append_assoc, List.cons_append, List.nil_append]; rfl)
      · rw [if_neg c1]
        by_cases c2 : l[i].f0 = x.f0
        · rw [if_pos (show decide (l[i].f0 ≥ x.f0) = true from decide_eq_true (by omega)), if_pos (by omega), Option.bind_some, if_pos c2, hw, if_pos c2]
          rw [note_loop l x h hl d (i + 1) k true _ (by omega) (by omega) (by simp; omega) (fun _ y hy => by have := hrs y hy; omega), if_pos rfl]
          first | (simp only [List.append_assoc, List.cons_append, List.nil_append]; done) | (simp only [List.append_assoc, List.cons_append, List.nil_append]; rfl)
        · rw [if_neg (show ¬ (decide (l[i].f0 ≥ x.f0) = true) from by simp; omega), if_neg c2, if_pos (by omega), hw, if_neg c2]
          rw [note_loop l x h hl d (i + 1) k false _ (by omega) (by omega) (by simp; omega) (fun hh => by cases hh), if_neg (by decide)]
          first | (simp only [List.append_assoc, List.cons_append, List.nil_append]; done) | (simp only [List.append_assoc, List.cons_append, List.nil_append]; rfl)
theorem rnote_spec (l : List La) (p s n o : Int) (h : Ris l) (hl : l.length ≤ 1000) : weighlockref18_Note.f 3000 l p s n o = some (noteR l ⟨p, s, n, o⟩, noteE l ⟨p, s, n, o⟩) := by
  have hR : noteR l ⟨p, s, n, o⟩ = if noteE l ⟨p, s, n, o⟩ = 0 then noteL l ⟨p, s, n, o⟩ else l := rfl
  have hE : noteE l ⟨p, s, n, o⟩ = if mayB p s n = true ∧ 0 ≤ o ∧ o ≤ 1048576 then (if findL l p = none ∧ l.length = 16 then 5 else 0) else 1 := rfl
  have hbad : ∀ k, weighlockref18_Note.j0 (k + 1) l true p s n o = some (l, 1) := fun k => by rw [weighlockref18_Note.j0, if_pos rfl]
  have hgood : (mayB p s n = true ∧ 0 ≤ o ∧ o ≤ 1048576) → weighlockref18_Note.j0 3000 l false p s n o = some (noteR l ⟨p, s, n, o⟩, noteE l ⟨p, s, n, o⟩) := by
    intro hm
    rw [if_pos hm] at hE
    obtain ⟨r, e, hr⟩ := find_spec l p h hl 2999 (by omega)
    rw [weighlockref18_Note.j0, if_neg (by decide), e, Option.bind_some]
    have hlp := note_loop l ⟨p, s, n, o⟩ h hl l.length 0 2998 false [] (by omega) (by omega) (by simp) (fun hh => by cases hh)
    rw [if_neg (by decide), List.drop_zero, List.nil_append] at hlp
    rcases hr with ⟨rfl, hf⟩ | ⟨j, hj, rfl, hf⟩
    · rw [if_pos (by decide), weighlockref18_Note.j1]
      by_cases h16 : l.length = 16
      · rw [if_pos (show ((l.length : Int) == 16) = true by rw [h16]; rfl)]
        rw [if_pos ⟨hf, h16⟩] at hE
        rw [hR, hE, if_neg (by decide)]
      · rw [if_neg (show ¬ ((l.length : Int) == 16) = true by simp; omega)]
        rw [if_neg (fun hh => h16 hh.2)] at hE
        rw [hR, hE, if_pos rfl]
        exact hlp
    · rw [if_neg (by omega), weighlockref18_Note.j1, if_neg (by decide)]
      rw [if_neg (fun hh => by rw [hf] at hh; simp at hh)] at hE
      rw [hR, hE, if_pos rfl]
      exact hlp
  unfold weighlockref18_Note.f
  rw [rmay_spec, Option.bind_some]
  cases hm : mayB p s n with
  | false =>
    rw [hm] at hE
    rw [if_neg (by simp)] at hE
    rw [if_neg (by decide), hbad, hR, hE, if_neg (by decide)]
  | true =>
    rw [if_pos rfl]
    by_cases c1 : o < 0
    · rw [if_neg (by omega)] at hE
      rw [if_pos c1, hbad, hR, hE, if_neg (by decide)]
    · rw [if_neg c1]
      by_cases c2 : o > 1048576
      · rw [if_neg (by omega)] at hE
        rw [decide_eq_true c2, hbad, hR, hE, if_neg (by decide)]
      · rw [decide_eq_false c2]
        exact hgood ⟨hm, by omega, by omega⟩
theorem rcheck_spec (l : List La) (p s n : Int) (h : Ris l) (hok : ∀ x ∈ l, okL x) (hl : l.length ≤ 1000) : weighlockref18_Check.f 3000 l p s n = some ((chk l p s n).1, (chk l p s n).2.1, (chk l p s n).2.2) := by
  have hE : chk l p s n = (if mayB p s n = true then (match findL l p with
    | none => if s ≠ 0 then (0, false, 33) else if l.length = 16 then (0, false, 5) else (0, false, 0)
    | some x => if x.f1 = s ∧ x.f2 = n then (x.f3, true, 0) else if s ≠ x.f1 + x.f2 then (0, false, 33) else (0, false, 0))
  else (0, false, 1) : Int × Bool × Int) := rfl
  show _ = some (chk l p s n)
  unfold weighlockref18_Check.f
  rw [rmay_spec, Option.bind_some]
  cases hm : mayB p s n with
  | false =>
    rw [hm, if_neg (by decide)] at hE
    rw [if_neg (by decide), hE]
  | true =>
    rw [hm, if_pos rfl] at hE
    rw [if_pos rfl]
    obtain ⟨r, e, hr⟩ := find_spec l p h hl 3000 (by omega)
    rw [e, Option.bind_some]
    rcases hr with ⟨rfl, hf⟩ | ⟨j, hj, rfl, hf⟩
    · rw [hf] at hE
      simp only at hE
      rw [if_pos (by decide)]
      by_cases c1 : s = 0
      · rw [if_pos c1]
        rw [if_neg (fun hh => hh c1)] at hE
        by_cases c2 : l.length = 16
        · rw [if_pos (by omega), hE, if_pos c2]
        · rw [if_neg (by omega), hE, if_neg c2]
      · rw [if_neg c1, hE, if_pos c1]
    · rw [hf] at hE
      simp only at hE
      have hox := hok l[j] (List.getElem_mem hj)
      have hox2 := of_decide_eq_true hox.1
      rw [if_neg (by omega), if_pos (by omega), if_pos (by omega), rd_at l j hj]
      by_cases c1 : l[j].f1 = s
      · rw [if_pos c1]
        by_cases c2 : l[j].f2 = n
        · rw [show (l[j].f2 == n) = true from beq_iff_eq.2 c2, weighlockref18_Check.j0, if_pos rfl, if_pos (by omega), if_pos (by omega), rd_at l j hj, hE, if_pos ⟨c1, c2⟩]
        · rw [show (l[j].f2 == n) = false from beq_eq_false_iff_ne.2 c2, weighlockref18_Check.j0, if_neg (by decide), if_pos (by omega), if_pos (by omega), rd_at l j hj, w64 _ (by omega) (by omega), hE, if_neg (show ¬ (l[j].f1 = s ∧ l[j].f2 = n) from fun hh => c2 hh.2)]
          by_cases c3 : s = l[j].f1 + l[j].f2
          · rw [if_pos c3, if_neg (show ¬ (s ≠ l[j].f1 + l[j].f2) from fun hh => hh c3)]
          · rw [if_neg c3, if_pos c3]
      · rw [if_neg c1, weighlockref18_Check.j0, if_neg (by decide), if_pos (by omega), if_pos (by omega), rd_at l j hj, w64 _ (by omega) (by omega), hE, if_neg (show ¬ (l[j].f1 = s ∧ l[j].f2 = n) from fun hh => c1 hh.1)]
        by_cases c3 : s = l[j].f1 + l[j].f2
        · rw [if_pos c3, if_neg (show ¬ (s ≠ l[j].f1 + l[j].f2) from fun hh => hh c3)]
        · rw [if_neg c3, if_pos c3]
end Go.Proofs.Ytgojaomldkgojaa.Dd
