import Derived.Test.YtohhlkabejangaaVPureGen
namespace Go.Proofs.Ytohhlkabejangaa.Of
set_option linter.unusedVariables false
set_option linter.unusedSimpArgs false
open Go.RowKit Go.Proofs.YtohhlkabejangaaW.PrintWords Go.Proofs.YtohhlkabejangaaW.PrintLast Go.Proofs.YtohhlkabejangaaW.PrintMore Go.Proofs.Ytohhlkabejangaa.Hand Go.Proofs.Ytohhlkabejangaa.POf Go.Proofs.Ytohhlkabejangaa.PureNums
def okc (c : Int) : Bool := (decide (97 ≤ c) && decide (c ≤ 122)) || (decide (48 ≤ c) && decide (c ≤ 57)) || decide (c = 45)
def nameB (s : ByteArray) : Bool := decide (1 ≤ s.size) && decide (s.size ≤ 12) && (List.range s.size).all fun i => okc (bt s i)
theorem all_bad (s : ByteArray) (i : Nat) (hi : i < s.size) (h : okc (bt s i) = false) : (List.range s.size).all (fun i => okc (bt s i)) = false := by
  rw [List.all_eq_false]
  exact ⟨i, List.mem_range.2 hi, by simp [h]⟩
theorem all_good (s : ByteArray) (h : ∀ i : Nat, i < s.size → okc (bt s i) = true) : (List.range s.size).all (fun i => okc (bt s i)) = true := by
  rw [List.all_eq_true]
  exact fun i hi => h i (List.mem_range.1 hi)
theorem okc_of (c : Int) (h : (97 ≤ c ∧ c ≤ 122) ∨ (48 ≤ c ∧ c ≤ 57) ∨ c = 45) : okc c = true := by
  unfold okc
  simp only [Bool.or_eq_true, Bool.and_eq_true, decide_eq_true_eq]
  omega
theorem okc_not (c : Int) (h : ¬ ((97 ≤ c ∧ c ≤ 122) ∨ (48 ≤ c ∧ c ≤ 57) ∨ c = 45)) : okc c = false := by
  rw [Bool.eq_false_iff]
  intro e
  unfold okc at e
  simp only [Bool.or_eq_true, Bool.and_eq_true, decide_eq_true_eq] at e
  omega
theorem name_loop (s : ByteArray) (h0 : 1 ≤ s.size) (h12 : s.size ≤ 12) (d : Nat) : ∀ (k i : Nat), i + d = s.size → d < k → (∀ j : Nat, j < i → okc (bt s j) = true) → topic_Name.l0 k s s.size i = some (nameB s) := by
  induction d with
  | zero =>
    intro k i hi hk hj
    obtain ⟨k, rfl⟩ : ∃ m, k = m + 1 := ⟨k - 1, by omega⟩
    simp only [topic_Name.l0]
    rw [if_neg (by omega)]
    congr 1
    unfold nameB
    rw [all_good s (fun j h => hj j (by omega)), decide_eq_true h0, decide_eq_true h12]
    rfl
  | succ d ih =>
    intro k i hi hk hj
    obtain ⟨k, rfl⟩ : ∃ m, k = m + 1 := ⟨k - 1, by omega⟩
    have hstep : okc (bt s i) = true → topic_Name.l0 k s s.size ((i : Int) + 1) = some (nameB s) := fun ho => ih k (i + 1) (by omega) (by omega) (fun j h => by
      by_cases e : j = i
      · subst e; exact ho
      · exact hj j (by omega))
    have hno : okc (bt s i) = false → nameB s = false := fun ho => by
      unfold nameB
      rw [all_bad s i (by omega) ho]
      simp
    simp only [topic_Name.l0]
    rw [if_pos (by omega), if_pos (by omega), if_pos (by omega), w64 _ (by omega) (by omega)]
    have yes := fun h => hstep (okc_of (bt s i) h)
    have no := fun h => hno (okc_not (bt s i) h)
    generalize bt s i = c at *
    repeat' split
    all_goals first
      | exact yes (by omega)
      | (rw [no (by omega)])
theorem name_eq (s : ByteArray) (hs : s.size ≤ 140737488351232) (k0 : Nat) (hk0 : 20 ≤ k0) : topic_Name.f k0 s = some (nameB s) := by
  obtain ⟨k, rfl⟩ : ∃ k, k0 = k + 1 := ⟨k0 - 1, by omega⟩
  unfold topic_Name.f
  by_cases h : s.toList = ([] : List UInt8)
  · rw [if_pos h]
    simp only [topic_Name.j0]
    rw [if_pos trivial]
    congr 1
    have := (nil_size s).1 h
    unfold nameB
    rw [decide_eq_false (show ¬ 1 ≤ s.size by omega)]
    rfl
  · rw [if_neg h]
    have hz : s.size ≠ 0 := fun e => h ((nil_size s).2 e)
    simp only [topic_Name.j0]
    by_cases h8 : (s.size : Int) > 12
    · rw [decide_eq_true h8, if_pos rfl]
      congr 1
      unfold nameB
      rw [decide_eq_false (show ¬ s.size ≤ 12 by omega)]
      simp
    · rw [decide_eq_false h8, if_neg (by simp)]
      exact name_loop s (by omega) (by omega) s.size k 0 (by omega) (by omega) (fun j h => absurd h (by omega))
noncomputable def un (s : ByteArray) : Int × Int × Int := unch s (Classical.choose (run_is s))
theorem un_spec (s : ByteArray) : Run s (Classical.choose (run_is s)) := Classical.choose_spec (run_is s)
theorem un_nums (s : ByteArray) (k : Nat) (hk : 30 ≤ k) : nums_Unchain.f k s = some (un s) := at_rounds (nums_Unchain.mono _) hk (nums_spec _ _ (un_spec s))
theorem un_range (s : ByteArray) : 0 ≤ (un s).1 ∧ (un s).1 < 18446744073709551616 ∧ 0 ≤ (un s).2.1 ∧ (un s).2.1 ≤ s.size := unch_range s _ (un_spec s)
noncomputable def ux (s : ByteArray) : ByteArray × Int × Int := untx s (un s)
theorem ux_nums (s : ByteArray) (k : Nat) (hk : 50 ≤ k) (hz : s.size ≤ 140737488351232) : nums_Untext.f k s = some (ux s) := untext_eq s _ (un_spec s) hz k hk
theorem ux_range (s : ByteArray) : 0 ≤ (ux s).2.1 ∧ (ux s).2.1 ≤ s.size ∧ (ux s).1.size ≤ s.size := by
  obtain ⟨a, b, c, d⟩ := un_range s
  unfold ux untx
  generalize un s = u at *
  by_cases e : u.2.2 = 0
  · rw [if_pos e]
    by_cases g : u.1 > 1099511627776
    · rw [if_pos g]; exact ⟨by simp, by simp, Nat.zero_le _⟩
    · rw [if_neg g]
      by_cases h : (s.size : Int) - u.2.1 < u.1
      · rw [if_pos h]; exact ⟨by simp, by simp, Nat.zero_le _⟩
      · rw [if_neg h]
        refine ⟨by simp only; omega, by simp only; omega, ?_⟩
        simp only [ByteArray.size_extract]
        omega
  · rw [if_neg e]; exact ⟨by simp, by simp, Nat.zero_le _⟩
/-- a reader: what is left, and whether something was none -/
abbrev Rd := ByteArray × Bool
noncomputable def rdNum (r : Rd) : Int × Rd := if r.2 = true then (0, r.1, true) else if (un r.1).2.2 = 0 then (if (un r.1).1 > 1099511627776 then (0, r.1, true) else ((un r.1).1, r.1.extract (un r.1).2.1.toNat r.1.size, r.2)) else (0, r.1, true)
noncomputable def rdText (r : Rd) : ByteArray × Rd := if r.2 = true then (⟨#[]⟩, r.1, true) else if (ux r.1).2.2 = 0 then ((ux r.1).1, r.1.extract (ux r.1).2.1.toNat r.1.size, r.2) else (⟨#[]⟩, r.1, true)
theorem rdText_size (r : Rd) : (rdText r).2.1.size ≤ r.1.size := by
  unfold rdText
  split
  · exact Nat.le_refl _
  · split
    · simp only [ByteArray.size_extract]; omega
    · exact Nat.le_refl _
theorem rdNum_some (r : Rd) (k : Nat) (hk : 30 ≤ k) : offsets_fields_number.f k r.1 r.2 = some ((rdNum r).1, (rdNum r).2.1, (rdNum r).2.2) := by
  obtain ⟨a, b, c, d⟩ := un_range r.1
  unfold offsets_fields_number.f rdNum
  rw [un_nums _ k hk]
  simp only [Option.bind_some]
  split
  · rfl
  · split
    · split
      · rfl
      · rw [w64 _ (by omega) (by omega)]
    · rfl
theorem rdText_some (r : Rd) (k : Nat) (hk : 50 ≤ k) (hz : r.1.size ≤ 140737488351232) : offsets_fields_text.f k r.1 r.2 = some ((rdText r).1, (rdText r).2.1, (rdText r).2.2) := by
  obtain ⟨c, d, _⟩ := ux_range r.1
  unfold offsets_fields_text.f rdText
  rw [ux_nums _ k hk hz]
  simp only [Option.bind_some]
  split
  · rfl
  · split
    · rfl
    · rfl
def chainS (n : Int) : ByteArray := strOfNums (chainF 10 n)
theorem strOfNums_size (l : List Int) : (strOfNums l).size = l.length := by simp [strOfNums, ByteArray.size]
theorem ba_ext {a b : ByteArray} (h : a.data.toList = b.data.toList) : a = b := by
  apply ByteArray.ext
  exact Array.toList_inj.1 h
theorem ext_list (s : ByteArray) (a b : Nat) : (s.extract a b).data.toList = (s.data.toList.drop a).take (b - a) := by
  rw [ByteArray.data_extract]
  simp
theorem data_length (s : ByteArray) : s.data.toList.length = s.size := by rw [Array.length_toList]; rfl
def upToB (n : Int) : Bool := decide (0 ≤ n) && decide (n ≤ 1099511627776)
def textS (s : ByteArray) : ByteArray := chainS (s.size : Int) ++ s
theorem ext_tail (a b : ByteArray) : (a ++ b).extract a.size (a ++ b).size = b := by
  apply ba_ext
  rw [ext_list, ByteArray.data_append, Array.toList_append, ByteArray.size_append]
  have e : a.size = a.data.toList.length := (data_length a).symm
  have e2 : b.size = b.data.toList.length := (data_length b).symm
  rw [e, e2, List.drop_left, List.take_of_length_le (by omega)]
theorem un_chain (v : Int) (h0 : 0 ≤ v) (h1 : v < 18446744073709551616) (more : ByteArray) : un (chainS v ++ more) = (v, ((chainS v).size : Int), 0) := by
  have r := run_chain v h0 h1 more
  have a := nums_spec _ _ r.1
  rw [r.2] at a
  have b := un_nums (chainS v ++ more) 30 (Nat.le_refl _)
  have e : (chainS v).size = (chainF 10 v).length := by unfold chainS; exact strOfNums_size _
  rw [e]
  have : nums_Unchain.f 30 (chainS v ++ more) = some (v, ((chainF 10 v).length : Int), 0) := a
  rw [this] at b
  exact (Option.some.inj b).symm
theorem up_rng {v : Int} (h : upToB v = true) : 0 ≤ v ∧ v ≤ 1099511627776 := by
  unfold upToB at h
  simp only [Bool.and_eq_true, decide_eq_true_eq] at h
  exact h
theorem num_fwd (v : Int) (h : upToB v = true) (more : ByteArray) : rdNum (chainS v ++ more, false) = (v, (more, false)) := by
  have hr := up_rng h
  unfold rdNum
  simp only
  rw [un_chain v hr.1 (by omega) more]
  simp only [Bool.false_eq_true, if_false, if_true]
  rw [if_neg (by omega), Int.toNat_natCast, ext_tail]
theorem text_fwd (s : ByteArray) (hs : s.size ≤ 1000000) (more : ByteArray) : rdText (textS s ++ more, false) = (s, (more, false)) := by
  have e : textS s ++ more = chainS (s.size : Int) ++ (s ++ more) := by unfold textS; rw [ByteArray.append_assoc]
  have hu := un_chain (s.size : Int) (by omega) (by omega) (s ++ more)
  have hx : ux (textS s ++ more) = (s, ((textS s).size : Int), 0) := by
    unfold ux untx
    rw [e, hu]
    simp only [if_true]
    rw [if_neg (by omega), if_neg (by simp only [ByteArray.size_append]; omega)]
    have e3 : ((textS s).size : Int) = ((chainS (s.size : Int)).size : Int) + (s.size : Int) := by unfold textS; rw [ByteArray.size_append]; omega
    rw [e3]
    have e4 : (((chainS (s.size : Int)).size : Int)).toNat = (chainS (s.size : Int)).size := by omega
    have e5 : (((chainS (s.size : Int)).size : Int) + (s.size : Int)).toNat = (chainS (s.size : Int)).size + s.size := by omega
    rw [e4, e5]
    have e6 : (chainS (s.size : Int) ++ (s ++ more)).extract (chainS (s.size : Int)).size ((chainS (s.size : Int)).size + s.size) = s := by
      rw [← ByteArray.append_assoc]
      have := extract_mid (chainS (s.size : Int)) s more
      rw [ByteArray.toList_eq, ByteArray.toList_eq] at this
      exact ba_ext this
    rw [e6]
  unfold rdText
  simp only
  rw [hx]
  simp only [Bool.false_eq_true, if_false, if_true]
  rw [Int.toNat_natCast, ext_tail]
/-! ### an entry -/
def mayB (g t : ByteArray) (p v : Int) : Bool := nameB g && nameB t && (decide (0 ≤ p) && decide (p ≤ 3)) && (decide (0 ≤ v) && decide (v ≤ 1048577))
theorem mayB_iff {g t : ByteArray} {p v : Int} : mayB g t p v = true ↔ (nameB g = true ∧ nameB t = true) ∧ (0 ≤ p ∧ p ≤ 3) ∧ (0 ≤ v ∧ v ≤ 1048577) := by
  unfold mayB
  simp only [Bool.and_eq_true, decide_eq_true_eq]
  exact ⟨fun ⟨⟨h1, h2⟩, h3⟩ => ⟨h1, h2, h3⟩, fun ⟨h1, h2, h3⟩ => ⟨⟨h1, h2⟩, h3⟩⟩
theorem nameB_size {s : ByteArray} (h : nameB s = true) : 1 ≤ s.size ∧ s.size ≤ 12 := by
  unfold nameB at h
  simp only [Bool.and_eq_true, decide_eq_true_eq] at h
  exact h.1
theorem may_f (g t : ByteArray) (p v : Int) (hg : g.size ≤ 140737488351232) (ht : t.size ≤ 140737488351232) (k : Nat) (hk : 20 ≤ k) : offsets_may.f k g t p v = some (mayB g t p v) := by
  unfold offsets_may.f mayB
  rw [name_eq g hg k hk]
  simp only [Option.bind_some]
  by_cases h1 : nameB g = true
  · rw [if_pos h1, name_eq t ht k hk, h1]
    simp only [Option.bind_some]
    by_cases h2 : nameB t = true
    · rw [if_pos h2, h2]
      by_cases h3 : p ≥ 0
      · rw [if_pos h3, decide_eq_true (show 0 ≤ p from h3)]
        by_cases h4 : p < 4
        · rw [if_pos h4, decide_eq_true (show p ≤ 3 by omega)]
          by_cases h5 : v ≥ 0
          · rw [if_pos h5, decide_eq_true (show 0 ≤ v from h5)]
            rfl
          · rw [if_neg h5, decide_eq_false (show ¬ 0 ≤ v from h5)]
            rfl
        · rw [if_neg h4, decide_eq_false (show ¬ p ≤ 3 by omega)]
          rfl
      · rw [if_neg h3, decide_eq_false (show ¬ 0 ≤ p from h3)]
        rfl
    · rw [if_neg h2, Bool.eq_false_iff.2 h2]
      rfl
  · rw [if_neg h1, Bool.eq_false_iff.2 h1]
    rfl
def entS (g t : ByteArray) (p v : Int) : ByteArray := ((textS g ++ textS t) ++ chainS p) ++ chainS v
theorem chainS_size (v : Int) (h0 : 0 ≤ v) (h1 : v < 18446744073709551616) : (chainS v).size ≤ 10 := chain_size v h0 h1
theorem textS_size (s : ByteArray) (h : s.size ≤ 100000) : (textS s).size ≤ 10 + s.size := by
  unfold textS
  rw [ByteArray.size_append]
  have := chainS_size (s.size : Int) (by omega) (by omega)
  omega
theorem entS_size {g t : ByteArray} {p v : Int} (h : mayB g t p v = true) : (entS g t p v).size ≤ 100 := by
  obtain ⟨⟨h1, h2⟩, h3, h4⟩ := mayB_iff.1 h
  have s1 := textS_size g (by have := nameB_size h1; omega)
  have s2 := textS_size t (by have := nameB_size h2; omega)
  have s3 := chainS_size p (by omega) (by omega)
  have s4 := chainS_size v (by omega) (by omega)
  have := nameB_size h1
  have := nameB_size h2
  unfold entS
  simp only [ByteArray.size_append]
  omega
theorem entry_f {g t : ByteArray} {p v : Int} (h : mayB g t p v = true) : offsets_entry.f g t p v = some (1, entS g t p v) := by
  obtain ⟨⟨h1, h2⟩, h3, h4⟩ := mayB_iff.1 h
  have z1 := nameB_size h1
  have z2 := nameB_size h2
  have s1 := textS_size g (by omega)
  have s2 := textS_size t (by omega)
  have s3 := chainS_size p (by omega) (by omega)
  have s4 := chainS_size v (by omega) (by omega)
  unfold offsets_entry.f
  rw [text_eq g (by omega), text_eq t (by omega), wu64 p (by omega) (by omega), wu64 v (by omega) (by omega), chain_f p (by omega) (by omega), chain_f v (by omega) (by omega)]
  simp only [Option.bind_some]
  show (if (textS g).size + (textS t).size ≤ _ then (if (textS g ++ textS t).size + (chainS p).size ≤ _ then (if ((textS g ++ textS t) ++ chainS p).size + (chainS v).size ≤ _ then some ((1 : Int), entS g t p v) else none) else none) else none) = _
  rw [if_pos (by omega), if_pos (by simp only [ByteArray.size_append]; omega), if_pos (by simp only [ByteArray.size_append]; omega)]
/-! ### what bytes are -/
structure El where
  g : ByteArray
  t : ByteArray
  p : Int
  v : Int
noncomputable def decE (s : ByteArray) : Option El :=
  if (rdNum (rdNum (rdText (rdText (s, false)).2).2).2).2.2 = true then none
  else if (rdNum (rdNum (rdText (rdText (s, false)).2).2).2).2.1.size = 0 then some ⟨(rdText (s, false)).1, (rdText (rdText (s, false)).2).1, (rdNum (rdText (rdText (s, false)).2).2).1, (rdNum (rdNum (rdText (rdText (s, false)).2).2).2).1⟩
  else none
noncomputable def okE (s : ByteArray) : Option El := match decE s with
  | none => none
  | some x => if mayB x.g x.t x.p x.v = true then some x else none
theorem okE_ent {g t : ByteArray} {p v : Int} (h : mayB g t p v = true) : okE (entS g t p v) = some ⟨g, t, p, v⟩ := by
  obtain ⟨⟨h1, h2⟩, h3, h4⟩ := mayB_iff.1 h
  have z1 := nameB_size h1
  have z2 := nameB_size h2
  have up : ∀ x : Int, 0 ≤ x → x ≤ 1099511627776 → upToB x = true := fun x a b => by
    unfold upToB
    rw [decide_eq_true a, decide_eq_true b]
    rfl
  have e : entS g t p v = textS g ++ (textS t ++ (chainS p ++ (chainS v ++ ⟨#[]⟩))) := by
    unfold entS
    rw [str_nil_append]
    simp only [ByteArray.append_assoc]
  have e1 : rdText (entS g t p v, false) = (g, (textS t ++ (chainS p ++ (chainS v ++ ⟨#[]⟩)), false)) := by rw [e]; exact text_fwd g (by omega) _
  have e2 := text_fwd t (by omega) (chainS p ++ (chainS v ++ ⟨#[]⟩))
  have e3 := num_fwd p (up p (by omega) (by omega)) (chainS v ++ ⟨#[]⟩)
  have e4 := num_fwd v (up v (by omega) (by omega)) ⟨#[]⟩
  have hd : decE (entS g t p v) = some ⟨g, t, p, v⟩ := by
    unfold decE
    rw [e1, e2, e3, e4]
    simp only [Bool.false_eq_true, if_false]
    rfl
  unfold okE
  rw [hd]
  simp only
  rw [if_pos h]
end Go.Proofs.Ytohhlkabejangaa.Of
