import Derived.Test.YtgojaomldkgojaaDd6
namespace Go.Proofs.Ytgojaomldkgojaa.Dd
set_option linter.unusedVariables false
set_option linter.unusedSimpArgs false
open Go.RowKit Go.Maps Go.Proofs.YtgojaomldkgojaaW.PrintWords Go.Proofs.YtgojaomldkgojaaW.PrintLast Go.Proofs.YtgojaomldkgojaaW.PrintMore Go.Proofs.Ytgojaomldkgojaa.PDd Go.Proofs.Ytgojaomldkgojaa.Hand Go.Proofs.Ytgojaomldkgojaa.PureNums
/-! What bytes decode to: the plain law. -/
/-- what the chain with which bytes begin tells: its number, its size, an error -/
noncomputable def U (s : ByteArray) : Int × Int × Int := unch s (Classical.choose (run_is s))
theorem U_prog (s : ByteArray) : nums_Unchain.f 30 s = some (U s) := nums_spec s _ (Classical.choose_spec (run_is s))
theorem U_ref (s : ByteArray) (h : s.size ≤ 140737488351232) : weighlockref01_Unchain.f 40 s = some (U s) := ref_spec s _ (Classical.choose_spec (run_is s)) h
theorem U_range (s : ByteArray) : 0 ≤ (U s).1 ∧ (U s).1 < 18446744073709551616 ∧ 0 ≤ (U s).2.1 ∧ (U s).2.1 ≤ s.size := unch_range s _ (Classical.choose_spec (run_is s))
theorem U_chain (v : Int) (h : okN v) (more : ByteArray) : U (chN v ++ more) = (v, ((chN v).size : Int), 0) := by
  obtain ⟨h1, h2⟩ := run_chain v h.1 (by have := h.2; omega) more
  have e := (U_prog (chN v ++ more)).symm.trans (nums_spec _ _ h1)
  rw [Option.some.inj e]
  have e2 : (chN v).size = (chainF 10 v).length := strOfNums_size _
  rw [e2]
  exact h2
theorem U_back (s : ByteArray) (e : (U s).2.2 = 0) : (chN (U s).1).toList = (s.extract 0 (U s).2.1.toNat).toList := by
  obtain ⟨h1, h2, t, h3, h4⟩ := unch_chain s _ (Classical.choose_spec (run_is s)) e
  have hr := U_range s
  have hu : U s = (pv s (Classical.choose (run_is s) + 1), ((Classical.choose (run_is s) : Nat) : Int) + 1, 0) := h1
  rw [hu] at hr ⊢
  simp only at hr ⊢
  rw [chain_f _ hr.1 hr.2.1] at h3
  obtain rfl := Option.some.inj h3
  rw [show (((Classical.choose (run_is s) : Nat) : Int) + 1).toNat = Classical.choose (run_is s) + 1 by omega]
  exact h4
/-- the number at a place, and where the next one is -/
noncomputable def nm (s : ByteArray) (at_ : Int) : Option (Int × Int) :=
  if (U (s.extract at_.toNat s.size)).2.2 = 0 ∧ (U (s.extract at_.toNat s.size)).1 ≤ 1099511627776 then some ((U (s.extract at_.toNat s.size)).1, at_ + (U (s.extract at_.toNat s.size)).2.1) else none
theorem nm_range {s : ByteArray} {a v a2 : Int} (h0 : 0 ≤ a) (h1 : a ≤ s.size) (h : nm s a = some (v, a2)) : 0 ≤ v ∧ v ≤ 1099511627776 ∧ a ≤ a2 ∧ a2 ≤ s.size := by
  unfold nm at h
  have hr := U_range (s.extract a.toNat s.size)
  have hz : (s.extract a.toNat s.size).size = s.size - a.toNat := by rw [ByteArray.size_extract]; omega
  split at h
  · rename_i c
    have h9 := Option.some.inj h
    have e1 := congrArg Prod.fst h9
    have e2 := congrArg Prod.snd h9
    simp only at e1 e2
    omega
  · cases h
/-- what a reader's number makes of it -/
noncomputable def nmP (s : ByteArray) (a : Int) (bad : Bool) : Int × Int × Bool := match nm s a with | some (v, a2) => (v, a2, bad) | none => (0, a, true)
theorem nmP_range {s : ByteArray} {a : Int} (h0 : 0 ≤ a) (h1 : a ≤ s.size) (bad : Bool) : 0 ≤ (nmP s a bad).2.1 ∧ (nmP s a bad).2.1 ≤ s.size ∧ 0 ≤ (nmP s a bad).1 ∧ (nmP s a bad).1 ≤ 1099511627776 := by
  unfold nmP
  cases hn : nm s a with
  | none => simp only; omega
  | some x =>
    obtain ⟨v, a2⟩ := x
    have := nm_range h0 h1 hn
    simp only
    omega
theorem number_f (s : ByteArray) (a : Int) (bad : Bool) (h0 : 0 ≤ a) (h1 : a ≤ s.size) (hs : s.size ≤ 10000) : dedup_reader_number.f 30 s a bad = some ((nmP s a bad).1, s, (nmP s a bad).2.1, (nmP s a bad).2.2) := by
  unfold dedup_reader_number.f nmP nm
  have hr := U_range (s.extract a.toNat s.size)
  have hz : (s.extract a.toNat s.size).size = s.size - a.toNat := by rw [ByteArray.size_extract]; omega
  rw [if_pos h0, if_pos h1, U_prog, Option.bind_some]
  by_cases c1 : (U (s.extract a.toNat s.size)).2.2 = 0
  · rw [if_pos c1]
    by_cases c2 : (U (s.extract a.toNat s.size)).1 ≤ 1099511627776
    · rw [if_neg (by omega), if_pos ⟨c1, c2⟩, w64 _ (by omega) (by omega), w64 _ (by omega) (by omega)]
    · rw [if_pos (by omega), if_neg (fun h => c2 h.2)]
  · rw [if_neg c1, if_neg (fun h => c1 h.1)]
theorem rnumber_f (s : ByteArray) (a : Int) (h0 : 0 ≤ a) (h1 : a ≤ s.size) (hs : s.size ≤ 10000) : weighlockref18_number.f 40 (s.extract a.toNat s.size) = some (match nm s a with | some (v, a2) => (v, a2 - a) | none => (0, -1)) := by
  unfold weighlockref18_number.f nm
  have hr := U_range (s.extract a.toNat s.size)
  have hz : (s.extract a.toNat s.size).size = s.size - a.toNat := by rw [ByteArray.size_extract]; omega
  rw [U_ref _ (by omega), Option.bind_some]
  by_cases c1 : (U (s.extract a.toNat s.size)).2.2 = 0
  · rw [if_pos c1]
    by_cases c2 : (U (s.extract a.toNat s.size)).1 ≤ 1099511627776
    · rw [if_neg (by omega), if_pos ⟨c1, c2⟩, w64 _ (by omega) (by omega)]
      simp only [Option.some.injEq, Prod.mk.injEq, true_and]
      omega
    · rw [if_pos (by omega), if_neg (fun h => c2 h.2)]
  · rw [if_neg c1, if_neg (fun h => c1 h.1)]
/-- so many numbers, one behind the other -/
noncomputable def nmJ (s : ByteArray) : Nat → Int → List Int → Option (List Int × Int)
  | 0, a, q => some (q, a)
  | r + 1, a, q => match nm s a with | some (v, a2) => nmJ s r a2 (q ++ [v]) | none => none
noncomputable def four (s : ByteArray) (a : Int) : Option (List Int × Int) := nmJ s 4 a []
theorem four_P (s : ByteArray) (a : Int) (x1 x2 x3 x4 : Int × Int × Bool) (h1 : nmP s a false = x1) (h2 : nmP s x1.2.1 x1.2.2 = x2) (h3 : nmP s x2.2.1 x2.2.2 = x3) (h4 : nmP s x3.2.1 x3.2.2 = x4) :
    (x4.2.2 = true ∧ four s a = none) ∨ (x4.2.2 = false ∧ four s a = some ([x1.1, x2.1, x3.1, x4.1], x4.2.1)) := by
  have hb : ∀ (y : Int × Int × Bool) (z : Int × Int × Bool), nmP s y.2.1 y.2.2 = z → y.2.2 = true → z.2.2 = true := by
    intro y z h hy
    rw [← h]
    unfold nmP
    split
    · exact hy
    · rfl
  have go : ∀ (a : Int) (z : Int × Int × Bool), nmP s a false = z → (z.2.2 = true ∧ nm s a = none) ∨ (z.2.2 = false ∧ nm s a = some (z.1, z.2.1)) := by
    intro a z h
    rw [← h]
    unfold nmP
    cases hn : nm s a with
    | none => exact .inl ⟨rfl, rfl⟩
    | some x => exact .inr ⟨rfl, rfl⟩
  unfold four nmJ
  rcases go a x1 h1 with ⟨b1, e1⟩ | ⟨b1, e1⟩
  · rw [e1]
    exact .inl ⟨hb _ _ h4 (hb _ _ h3 (hb _ _ h2 b1)), rfl⟩
  rw [e1]
  simp only
  unfold nmJ
  rw [b1] at h2
  rcases go _ x2 h2 with ⟨b2, e2⟩ | ⟨b2, e2⟩
  · rw [e2]
    exact .inl ⟨hb _ _ h4 (hb _ _ h3 b2), rfl⟩
  rw [e2]
  simp only
  unfold nmJ
  rw [b2] at h3
  rcases go _ x3 h3 with ⟨b3, e3⟩ | ⟨b3, e3⟩
  · rw [e3]
    exact .inl ⟨hb _ _ h4 b3, rfl⟩
  rw [e3]
  simp only
  unfold nmJ
  rw [b3] at h4
  rcases go _ x4 h4 with ⟨b4, e4⟩ | ⟨b4, e4⟩
  · rw [e4]
    exact .inl ⟨b4, rfl⟩
  rw [e4]
  simp only
  unfold nmJ
  exact .inr ⟨b4, rfl⟩
def lastP (l : List La) : Int := match l.getLast? with | some x => x.f0 | none => 0
def toLa (q : List Int) : La := ⟨q.getD 0 0, q.getD 1 0, q.getD 2 0, q.getD 3 0⟩
noncomputable def decR (s : ByteArray) : Nat → Int → List La → Option (List La × Int)
  | 0, a, l => some (l, a)
  | c + 1, a, l => match four s a with
    | none => none
    | some (q, a2) => if lastP l < (toLa q).f0 ∧ noteE l (toLa q) = 0 then decR s c a2 (l ++ [toLa q]) else none
/-- the table with which bytes begin, and how many they are -/
noncomputable def dec (s : ByteArray) : Option (List La × Int) := match nm s 0 with
  | none => none
  | some (n, a) => if 16 < n then none else decR s n.toNat a []
theorem last_gt (l : List La) (h : Ris l) (p : Int) (hp : lastP l < p) : ∀ y ∈ l, y.f0 < p := by
  intro y hy
  unfold lastP at hp
  cases hl : l.getLast? with
  | none =>
    rw [List.getLast?_eq_none_iff] at hl
    rw [hl] at hy
    cases hy
  | some x =>
    rw [hl] at hp
    simp only at hp
    obtain ⟨l', rfl⟩ := List.getLast?_eq_some_iff.1 hl
    rcases List.mem_append.1 hy with hy | hy
    · have := (List.pairwise_append.1 h).2.2 y hy x (List.mem_singleton.2 rfl)
      omega
    · rw [List.mem_singleton.1 hy]
      exact hp
theorem note_end (l : List La) (x : La) (h : ∀ y ∈ l, y.f0 < x.f0) : noteL l x = l ++ [x] := by
  induction l with
  | nil => rfl
  | cons y l ih =>
    have h1 := h y List.mem_cons_self
    rw [noteL, if_neg (by omega), if_neg (by omega), ih (fun z hz => h z (List.mem_cons_of_mem _ hz))]
    rfl
theorem last_snoc (l : List La) (x : La) : lastP (l ++ [x]) = x.f0 := by
  unfold lastP
  rw [List.getLast?_append]
  rfl
end Go.Proofs.Ytgojaomldkgojaa.Dd
