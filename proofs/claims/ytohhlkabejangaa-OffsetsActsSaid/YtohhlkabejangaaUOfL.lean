import Derived.Test.YtohhlkabejangaaUPureGen
-- halved
namespace Go.Proofs.Ytohhlkabejangaa.Of
set_option linter.unusedVariables false
set_option linter.unusedSimpArgs false
open Go.RowKit Go.Proofs.YtohhlkabejangaaW.PrintWords Go.Proofs.YtohhlkabejangaaW.PrintLast Go.Proofs.YtohhlkabejangaaW.PrintMore Go.Proofs.Ytohhlkabejangaa.Hand Go.Proofs.Ytohhlkabejangaa.POf Go.Proofs.Ytohhlkabejangaa.PureNums
open Go.Proofs.YtohhlkabejangaaW.PrintWords.Aside0 renaming mk → mkA
def okc (c : Int) : Bool := (decide (97 ≤ c) && decide (c ≤ 122)) || (decide (48 ≤ c) && decide (c ≤ 57)) || decide (c = 45)
def nameB (s : ByteArray) : Bool := decide (1 ≤ s.size) && decide (s.size ≤ 12) && (List.range s.size).all fun i => okc (bt s i)
theorem all_bad (s : ByteArray) (i : Nat) (hi : i < s.size) (h : okc (bt s i) = false) : (List.range s.size).all (fun i => okc (bt s i)) = false := by
 rw [List.all_eq_false]
 exact ⟨i, List.mem_range.2 hi, by simp [h]⟩
theorem all_good (s : ByteArray) (h : ∀ i : Nat, i < s.size → okc (bt s i) = true) : (List.range s.size).all (fun i => okc (bt s i)) = true := by
 rw [List.all_eq_true]
 exact fun i hi => h i (List.mem_range.1 hi)
theorem okc_of (c : Int) (h : (97 ≤ c ∧ c ≤ 122) ∨ (48 ≤ c ∧ c ≤ 57) ∨ c = 45) : okc c = true := by
 unfold okc
 simp only [Bool.or_eq_true, Bool.and_eq_true, decide_eq_true_eq]
 omega
theorem okc_not (c : Int) (h : ¬ ((97 ≤ c ∧ c ≤ 122) ∨ (48 ≤ c ∧ c ≤ 57) ∨ c = 45)) : okc c = false := by
 rw [Bool.eq_false_iff]
 intro e
 unfold okc at e
 simp only [Bool.or_eq_true, Bool.and_eq_true, decide_eq_true_eq] at e
 omega
theorem name_loop (s : ByteArray) (h0 : 1 ≤ s.size) (h12 : s.size ≤ 12) (d : Nat) : ∀ (k i : Nat), i + d = s.size → d < k → (∀ j : Nat, j < i → okc (bt s j) = true) → topic_Name.l0 k s s.size i = some (nameB s) := by
 induction d with
 | zero =>
  intro k i hi hk hj
  obtain ⟨k, rfl⟩ : ∃ m, k = m + 1 := ⟨k - 1, by omega⟩
  simp only [topic_Name.l0]
  rw [if_neg (by omega)]
  congr 1
  unfold nameB
  rw [all_good s (fun j h => hj j (by omega)), decide_eq_true h0, decide_eq_true h12]
  rfl
 | succ d ih =>
  intro k i hi hk hj
  obtain ⟨k, rfl⟩ : ∃ m, k = m + 1 := ⟨k - 1, by omega⟩
  have hstep : okc (bt s i) = true → topic_Name.l0 k s s.size ((i : Int) + 1) = some (nameB s) := fun ho => ih k (i + 1) (by omega) (by omega) (fun j h => by
   by_cases e : j = i
   ·subst e; exact ho
   ·exact hj j (by omega))
  have hno : okc (bt s i) = false → nameB s = false := fun ho => by
   unfold nameB
   rw [all_bad s i (by omega) ho]
   simp
  simp only [topic_Name.l0]
  rw [if_pos (by omega), if_pos (by omega), if_pos (by omega), w64 _ (by omega) (by omega)]
  have yes := fun h => hstep (okc_of (bt s i) h)
  have no := fun h => hno (okc_not (bt s i) h)
  generalize bt s i = c at *
  repeat' split
  all_goals first
   | exact yes (by omega)
   | (rw [no (by omega)])
theorem name_eq (s : ByteArray) (hs : s.size ≤ 140737488351232) (k0 : Nat) (hk0 : 20 ≤ k0) : topic_Name.f k0 s = some (nameB s) := by
 obtain ⟨k, rfl⟩ : ∃ k, k0 = k + 1 := ⟨k0 - 1, by omega⟩
 unfold topic_Name.f
 by_cases h : s.toList = ([] : List UInt8)
 ·rw [if_pos h]
  simp only [topic_Name.j0]
  rw [if_pos trivial]
  congr 1
  have := (nil_size s).1 h
  unfold nameB
  rw [decide_eq_false (show ¬ 1 ≤ s.size by omega)]
  rfl
 ·rw [if_neg h]
  have hz : s.size ≠ 0 := fun e => h ((nil_size s).2 e)
  simp only [topic_Name.j0]
  by_cases h8 : (s.size : Int) > 12
  ·rw [decide_eq_true h8, if_pos rfl]
   congr 1
   unfold nameB
   rw [decide_eq_false (show ¬ s.size ≤ 12 by omega)]
   simp
  ·rw [decide_eq_false h8, if_neg (by simp)]
   exact name_loop s (by omega) (by omega) s.size k 0 (by omega) (by omega) (fun j h => absurd h (by omega))
theorem ref_name_loop (s : ByteArray) (hs : s.size ≤ 140737488351232) (d : Nat) : ∀ (k i : Nat), i + d = s.size → d < k → (∀ j : Nat, j < i → okc (bt s j) = true) → weighlockref22_Name.l0 k s s.size i = some (nameB s) := by
 induction d with
 | zero =>
  intro k i hi hk hj
  obtain ⟨k, rfl⟩ : ∃ m, k = m + 1 := ⟨k - 1, by omega⟩
  simp only [weighlockref22_Name.l0]
  rw [if_neg (by omega)]
  unfold nameB
  rw [all_good s (fun j h => hj j (by omega))]
  by_cases a : (s.size : Int) ≥ 1
  ·rw [if_pos a, decide_eq_true (show 1 ≤ s.size by omega)]
   congr 1
   simp only [Bool.true_and, Bool.and_true]
   rw [Bool.eq_iff_iff, decide_eq_true_eq, decide_eq_true_eq]
   omega
  ·rw [if_neg a, decide_eq_false (show ¬ 1 ≤ s.size by omega)]
   rfl
 | succ d ih =>
  intro k i hi hk hj
  obtain ⟨k, rfl⟩ : ∃ m, k = m + 1 := ⟨k - 1, by omega⟩
  have hstep : okc (bt s i) = true → weighlockref22_Name.l0 k s s.size ((i : Int) + 1) = some (nameB s) := fun ho => ih k (i + 1) (by omega) (by omega) (fun j h => by
   by_cases e : j = i
   ·subst e; exact ho
   ·exact hj j (by omega))
  have hno : okc (bt s i) = false → nameB s = false := fun ho => by
   unfold nameB
   rw [all_bad s i (by omega) ho]
   simp
  simp only [weighlockref22_Name.l0]
  rw [if_pos (by omega), if_pos (by omega), if_pos (by omega), w64 _ (by omega) (by omega)]
  have yes := fun h => hstep (okc_of (bt s i) h)
  have no := fun h => hno (okc_not (bt s i) h)
  generalize bt s i = c at *
  repeat' split
  all_goals first
   | exact yes (by omega)
   | (rw [no (by omega)])
theorem ref_name (s : ByteArray) (hs : s.size ≤ 140737488351232) (k : Nat) (hk : s.size < k) : weighlockref22_Name.f k s = some (nameB s) := by
 unfold weighlockref22_Name.f
 exact ref_name_loop s hs s.size k 0 (by omega) hk (fun j h => absurd h (by omega))
noncomputable def un (s : ByteArray) : Int × Int × Int := unch s (Classical.choose (run_is s))
theorem un_spec (s : ByteArray) : Run s (Classical.choose (run_is s)) := Classical.choose_spec (run_is s)
theorem un_nums (s : ByteArray) (k : Nat) (hk : 30 ≤ k) : nums_Unchain.f k s = some (un s) := at_rounds (nums_Unchain.mono _) hk (nums_spec _ _ (un_spec s))
theorem un_ref (s : ByteArray) (k : Nat) (hk : 40 ≤ k) (hz : s.size ≤ 140737488351232) : weighlockref01_Unchain.f k s = some (un s) := at_rounds (weighlockref01_Unchain.mono _) hk (ref_spec _ _ (un_spec s) hz)
theorem un_range (s : ByteArray) : 0 ≤ (un s).1 ∧ (un s).1 < 18446744073709551616 ∧ 0 ≤ (un s).2.1 ∧ (un s).2.1 ≤ s.size := unch_range s _ (un_spec s)
noncomputable def ux (s : ByteArray) : ByteArray × Int × Int := untx s (un s)
theorem ux_nums (s : ByteArray) (k : Nat) (hk : 50 ≤ k) (hz : s.size ≤ 140737488351232) : nums_Untext.f k s = some (ux s) := untext_eq s _ (un_spec s) hz k hk
theorem ux_ref (s : ByteArray) (k : Nat) (hk : 50 ≤ k) (hz : s.size ≤ 140737488351232) : weighlockref01_Untext.f k s = some (ux s) := ref_untext s _ (un_spec s) hz k hk
theorem ux_range (s : ByteArray) : 0 ≤ (ux s).2.1 ∧ (ux s).2.1 ≤ s.size ∧ (ux s).1.size ≤ s.size := by
 obtain ⟨a, b, c, d⟩ := un_range s
 unfold ux untx
 generalize un s = u at *
 by_cases e : u.2.2 = 0
 ·rw [if_pos e]
  by_cases g : u.1 > 1099511627776
  ·rw [if_pos g]; exact ⟨by simp, by simp, Nat.zero_le _⟩
  ·rw [if_neg g]
   by_cases h : (s.size : Int) - u.2.1 < u.1
   ·rw [if_pos h]; exact ⟨by simp, by simp, Nat.zero_le _⟩
   ·rw [if_neg h]
    refine ⟨by simp only; omega, by simp only; omega, ?_⟩
    simp only [ByteArray.size_extract]
    omega
 ·rw [if_neg e]; exact ⟨by simp, by simp, Nat.zero_le _⟩
abbrev Rd := ByteArray × Bool
noncomputable def rdNum (r : Rd) : Int × Rd := if r.2 = true then (0, r.1, true) else if (un r.1).2.2 = 0 then (if (un r.1).1 > 1099511627776 then (0, r.1, true) else ((un r.1).1, r.1.extract (un r.1).2.1.toNat r.1.size, r.2)) else (0, r.1, true)
noncomputable def rdText (r : Rd) : ByteArray × Rd := if r.2 = true then (⟨#[]⟩, r.1, true) else if (ux r.1).2.2 = 0 then ((ux r.1).1, r.1.extract (ux r.1).2.1.toNat r.1.size, r.2) else (⟨#[]⟩, r.1, true)
theorem rdText_size (r : Rd) : (rdText r).2.1.size ≤ r.1.size := by
 unfold rdText
 split
 ·exact Nat.le_refl _
 ·split
  ·simp only [ByteArray.size_extract]; omega
  ·exact Nat.le_refl _
theorem rdNum_some (r : Rd) (k : Nat) (hk : 30 ≤ k) : offsets_fields_number.f k r.1 r.2 = some ((rdNum r).1, (rdNum r).2.1, (rdNum r).2.2) := by
 obtain ⟨a, b, c, d⟩ := un_range r.1
 unfold offsets_fields_number.f rdNum
 rw [un_nums _ k hk]
 simp only [Option.bind_some]
 split
 ·rfl
 ·split
  ·split
   ·rfl
   ·rw [w64 _ (by omega) (by omega)]
  ·rfl
theorem rdText_some (r : Rd) (k : Nat) (hk : 50 ≤ k) (hz : r.1.size ≤ 140737488351232) : offsets_fields_text.f k r.1 r.2 = some ((rdText r).1, (rdText r).2.1, (rdText r).2.2) := by
 obtain ⟨c, d, _⟩ := ux_range r.1
 unfold offsets_fields_text.f rdText
 rw [ux_nums _ k hk hz]
 simp only [Option.bind_some]
 split
 ·rfl
 ·split
  ·rfl
  ·rfl
def chainS (n : Int) : ByteArray := strOfNums (chainF 10 n)
theorem strOfNums_size (l : List Int) : (strOfNums l).size = l.length := by simp [strOfNums, ByteArray.size]
theorem ba_ext {a b : ByteArray} (h : a.data.toList = b.data.toList) : a = b := by
 apply ByteArray.ext
 exact Array.toList_inj.1 h
theorem ext_list (s : ByteArray) (a b : Nat) : (s.extract a b).data.toList = (s.data.toList.drop a).take (b - a) := by
 rw [ByteArray.data_extract]
 simp
theorem data_length (s : ByteArray) : s.data.toList.length = s.size := by rw [Array.length_toList]; rfl
def upToB (n : Int) : Bool := decide (0 ≤ n) && decide (n ≤ 1099511627776)
def textS (s : ByteArray) : ByteArray := chainS (s.size : Int) ++ s
theorem ext_tail (a b : ByteArray) : (a ++ b).extract a.size (a ++ b).size = b := by
 apply ba_ext
 rw [ext_list, ByteArray.data_append, Array.toList_append, ByteArray.size_append]
 have e : a.size = a.data.toList.length := (data_length a).symm
 have e2 : b.size = b.data.toList.length := (data_length b).symm
 rw [e, e2, List.drop_left, List.take_of_length_le (by omega)]
theorem un_chain (v : Int) (h0 : 0 ≤ v) (h1 : v < 18446744073709551616) (more : ByteArray) : un (chainS v ++ more) = (v, ((chainS v).size : Int), 0) := by
 have r := run_chain v h0 h1 more
 have a := nums_spec _ _ r.1
 rw [r.2] at a
 have b := un_nums (chainS v ++ more) 30 (Nat.le_refl _)
 have e : (chainS v).size = (chainF 10 v).length := by unfold chainS; exact strOfNums_size _
 rw [e]
 have : nums_Unchain.f 30 (chainS v ++ more) = some (v, ((chainF 10 v).length : Int), 0) := a
 rw [this] at b
 exact (Option.some.inj b).symm
theorem up_rng {v : Int} (h : upToB v = true) : 0 ≤ v ∧ v ≤ 1099511627776 := by
 unfold upToB at h
 simp only [Bool.and_eq_true, decide_eq_true_eq] at h
 exact h
theorem num_fwd (v : Int) (h : upToB v = true) (more : ByteArray) : rdNum (chainS v ++ more, false) = (v, (more, false)) := by
 have hr := up_rng h
 unfold rdNum
 simp only
 rw [un_chain v hr.1 (by omega) more]
 simp only [Bool.false_eq_true, if_false, if_true]
 rw [if_neg (by omega), Int.toNat_natCast, ext_tail]
theorem text_fwd (s : ByteArray) (hs : s.size ≤ 1000000) (more : ByteArray) : rdText (textS s ++ more, false) = (s, (more, false)) := by
 have e : textS s ++ more = chainS (s.size : Int) ++ (s ++ more) := by unfold textS; rw [ByteArray.append_assoc]
 have hu := un_chain (s.size : Int) (by omega) (by omega) (s ++ more)
 have hx : ux (textS s ++ more) = (s, ((textS s).size : Int), 0) := by
  unfold ux untx
  rw [e, hu]
  simp only [if_true]
  rw [if_neg (by omega), if_neg (by simp only [ByteArray.size_append]; omega)]
  have e3 : ((textS s).size : Int) = ((chainS (s.size : Int)).size : Int) + (s.size : Int) := by unfold textS; rw [ByteArray.size_append]; omega
  rw [e3]
  have e4 : (((chainS (s.size : Int)).size : Int)).toNat = (chainS (s.size : Int)).size := by omega
  have e5 : (((chainS (s.size : Int)).size : Int) + (s.size : Int)).toNat = (chainS (s.size : Int)).size + s.size := by omega
  rw [e4, e5]
  have e6 : (chainS (s.size : Int) ++ (s ++ more)).extract (chainS (s.size : Int)).size ((chainS (s.size : Int)).size + s.size) = s := by
   rw [← ByteArray.append_assoc]
   have := extract_mid (chainS (s.size : Int)) s more
   rw [ByteArray.toList_eq, ByteArray.toList_eq] at this
   exact ba_ext this
  rw [e6]
 unfold rdText
 simp only
 rw [hx]
 simp only [Bool.false_eq_true, if_false, if_true]
 rw [Int.toNat_natCast, ext_tail]
def mayB (g t : ByteArray) (p v : Int) : Bool := nameB g && nameB t && (decide (0 ≤ p) && decide (p ≤ 3)) && (decide (0 ≤ v) && decide (v ≤ 1048577))
theorem mayB_iff {g t : ByteArray} {p v : Int} : mayB g t p v = true ↔ (nameB g = true ∧ nameB t = true) ∧ (0 ≤ p ∧ p ≤ 3) ∧ (0 ≤ v ∧ v ≤ 1048577) := by
 unfold mayB
 simp only [Bool.and_eq_true, decide_eq_true_eq]
 exact ⟨fun ⟨⟨h1, h2⟩, h3⟩ => ⟨h1, h2, h3⟩, fun ⟨h1, h2, h3⟩ => ⟨⟨h1, h2⟩, h3⟩⟩
theorem nameB_size {s : ByteArray} (h : nameB s = true) : 1 ≤ s.size ∧ s.size ≤ 12 := by
 unfold nameB at h
 simp only [Bool.and_eq_true, decide_eq_true_eq] at h
 exact h.1
theorem may_f (g t : ByteArray) (p v : Int) (hg : g.size ≤ 140737488351232) (ht : t.size ≤ 140737488351232) (k : Nat) (hk : 20 ≤ k) : offsets_may.f k g t p v = some (mayB g t p v) := by
 unfold offsets_may.f mayB
 rw [name_eq g hg k hk]
 simp only [Option.bind_some]
 by_cases h1 : nameB g = true
 ·rw [if_pos h1, name_eq t ht k hk, h1]
  simp only [Option.bind_some]
  by_cases h2 : nameB t = true
  ·rw [if_pos h2, h2]
   by_cases h3 : p ≥ 0
   ·rw [if_pos h3, decide_eq_true (show 0 ≤ p from h3)]
    by_cases h4 : p < 4
    ·rw [if_pos h4, decide_eq_true (show p ≤ 3 by omega)]
     by_cases h5 : v ≥ 0
     ·rw [if_pos h5, decide_eq_true (show 0 ≤ v from h5)]
      rfl
     ·rw [if_neg h5, decide_eq_false (show ¬ 0 ≤ v from h5)]
      rfl
    ·rw [if_neg h4, decide_eq_false (show ¬ p ≤ 3 by omega)]
     rfl
   ·rw [if_neg h3, decide_eq_false (show ¬ 0 ≤ p from h3)]
    rfl
  ·rw [if_neg h2, Bool.eq_false_iff.2 h2]
   rfl
 ·rw [if_neg h1, Bool.eq_false_iff.2 h1]
  rfl
theorem rmay_f (g t : ByteArray) (p v : Int) (hg : g.size ≤ 140737488351232) (ht : t.size ≤ 140737488351232) (k : Nat) (hk : g.size < k) (hk2 : t.size < k) : weighlockref24_May.f k g t p v = some (mayB g t p v) := by
 unfold weighlockref24_May.f mayB
 rw [ref_name g hg k hk]
 simp only [Option.bind_some]
 by_cases h1 : nameB g = true
 ·rw [if_pos h1, ref_name t ht k hk2, h1]
  simp only [Option.bind_some]
  by_cases h2 : nameB t = true
  ·rw [if_pos h2, h2]
   by_cases h3 : p ≥ 0
   ·rw [if_pos h3, decide_eq_true (show 0 ≤ p from h3)]
    by_cases h4 : p ≤ 3
    ·rw [if_pos h4, decide_eq_true h4]
     by_cases h5 : v ≥ 0
     ·rw [if_pos h5, decide_eq_true (show 0 ≤ v from h5)]
      rfl
     ·rw [if_neg h5, decide_eq_false (show ¬ 0 ≤ v from h5)]
      rfl
    ·rw [if_neg h4, decide_eq_false h4]
     rfl
   ·rw [if_neg h3, decide_eq_false (show ¬ 0 ≤ p from h3)]
    rfl
  ·rw [if_neg h2, Bool.eq_false_iff.2 h2]
   rfl
 ·rw [if_neg h1, Bool.eq_false_iff.2 h1]
  rfl
def entS (g t : ByteArray) (p v : Int) : ByteArray := ((textS g ++ textS t) ++ chainS p) ++ chainS v
theorem chainS_size (v : Int) (h0 : 0 ≤ v) (h1 : v < 18446744073709551616) : (chainS v).size ≤ 10 := chain_size v h0 h1
theorem textS_size (s : ByteArray) (h : s.size ≤ 100000) : (textS s).size ≤ 10 + s.size := by
 unfold textS
 rw [ByteArray.size_append]
 have := chainS_size (s.size : Int) (by omega) (by omega)
 omega
theorem entS_size {g t : ByteArray} {p v : Int} (h : mayB g t p v = true) : (entS g t p v).size ≤ 100 := by
 obtain ⟨⟨h1, h2⟩, h3, h4⟩ := mayB_iff.1 h
 have s1 := textS_size g (by have := nameB_size h1; omega)
 have s2 := textS_size t (by have := nameB_size h2; omega)
 have s3 := chainS_size p (by omega) (by omega)
 have s4 := chainS_size v (by omega) (by omega)
 have := nameB_size h1
 have := nameB_size h2
 unfold entS
 simp only [ByteArray.size_append]
 omega
theorem chain_rf (v : Int) (h0 : 0 ≤ v) (h1 : v < 18446744073709551616) (k : Nat) (hk : 10 ≤ k) : weighlockref01_Chain.f k v = some (chainS v) :=
 at_rounds (weighlockref01_Chain.mono _) hk (ref_chain 10 v (by omega) (by omega) h0 h1 (p10 v h1))
theorem entry_f {g t : ByteArray} {p v : Int} (h : mayB g t p v = true) : offsets_entry.f g t p v = some (1, entS g t p v) := by
 obtain ⟨⟨h1, h2⟩, h3, h4⟩ := mayB_iff.1 h
 have z1 := nameB_size h1
 have z2 := nameB_size h2
 have s1 := textS_size g (by omega)
 have s2 := textS_size t (by omega)
 have s3 := chainS_size p (by omega) (by omega)
 have s4 := chainS_size v (by omega) (by omega)
 unfold offsets_entry.f
 rw [text_eq g (by omega), text_eq t (by omega), wu64 p (by omega) (by omega), wu64 v (by omega) (by omega), chain_f p (by omega) (by omega), chain_f v (by omega) (by omega)]
 simp only [Option.bind_some]
 show (if (textS g).size + (textS t).size ≤ _ then (if (textS g ++ textS t).size + (chainS p).size ≤ _ then (if ((textS g ++ textS t) ++ chainS p).size + (chainS v).size ≤ _ then some ((1 : Int), entS g t p v) else none) else none) else none) = _
 rw [if_pos (by omega), if_pos (by simp only [ByteArray.size_append]; omega), if_pos (by simp only [ByteArray.size_append]; omega)]
theorem rentry_f {g t : ByteArray} {p v : Int} (h : mayB g t p v = true) (k : Nat) (hk : 50 ≤ k) : weighlockref24_Entry.f k g t p v = some (1, entS g t p v) := by
 obtain ⟨⟨h1, h2⟩, h3, h4⟩ := mayB_iff.1 h
 have z1 := nameB_size h1
 have z2 := nameB_size h2
 have s1 := textS_size g (by omega)
 have s2 := textS_size t (by omega)
 have s3 := chainS_size p (by omega) (by omega)
 have s4 := chainS_size v (by omega) (by omega)
 unfold weighlockref24_Entry.f
 rw [ref_text g (by omega) k hk, ref_text t (by omega) k hk, wu64 p (by omega) (by omega), wu64 v (by omega) (by omega), chain_rf p (by omega) (by omega) k (by omega), chain_rf v (by omega) (by omega) k (by omega)]
 simp only [Option.bind_some]
 show (if (textS g).size + (textS t).size ≤ _ then (if (textS g ++ textS t).size + (chainS p).size ≤ _ then (if ((textS g ++ textS t) ++ chainS p).size + (chainS v).size ≤ _ then some ((1 : Int), entS g t p v) else none) else none) else none) = _
 rw [if_pos (by omega), if_pos (by simp only [ByteArray.size_append]; omega), if_pos (by simp only [ByteArray.size_append]; omega)]
structure El where
 g : ByteArray
 t : ByteArray
 p : Int
 v : Int
noncomputable def decE (s : ByteArray) : Option El :=
 if (rdNum (rdNum (rdText (rdText (s, false)).2).2).2).2.2 = true then none
 else if (rdNum (rdNum (rdText (rdText (s, false)).2).2).2).2.1.size = 0 then some ⟨(rdText (s, false)).1, (rdText (rdText (s, false)).2).1, (rdNum (rdText (rdText (s, false)).2).2).1, (rdNum (rdNum (rdText (rdText (s, false)).2).2).2).1⟩
 else none
noncomputable def okE (s : ByteArray) : Option El := match decE s with
 | none => none
 | some x => if mayB x.g x.t x.p x.v = true then some x else none
theorem okE_ent {g t : ByteArray} {p v : Int} (h : mayB g t p v = true) : okE (entS g t p v) = some ⟨g, t, p, v⟩ := by
 obtain ⟨⟨h1, h2⟩, h3, h4⟩ := mayB_iff.1 h
 have z1 := nameB_size h1
 have z2 := nameB_size h2
 have up : ∀ x : Int, 0 ≤ x → x ≤ 1099511627776 → upToB x = true := fun x a b => by
  unfold upToB
  rw [decide_eq_true a, decide_eq_true b]
  rfl
 have e : entS g t p v = textS g ++ (textS t ++ (chainS p ++ (chainS v ++ ⟨#[]⟩))) := by
  unfold entS
  rw [str_nil_append]
  simp only [ByteArray.append_assoc]
 have e1 : rdText (entS g t p v, false) = (g, (textS t ++ (chainS p ++ (chainS v ++ ⟨#[]⟩)), false)) := by rw [e]; exact text_fwd g (by omega) _
 have e2 := text_fwd t (by omega) (chainS p ++ (chainS v ++ ⟨#[]⟩))
 have e3 := num_fwd p (up p (by omega) (by omega)) (chainS v ++ ⟨#[]⟩)
 have e4 := num_fwd v (up v (by omega) (by omega)) ⟨#[]⟩
 have hd : decE (entS g t p v) = some ⟨g, t, p, v⟩ := by
  unfold decE
  rw [e1, e2, e3, e4]
  simp only [Bool.false_eq_true, if_false]
  rfl
 unfold okE
 rw [hd]
 simp only
 rw [if_pos h]
theorem bad_text (s : ByteArray) : rdText (s, true) = (⟨#[]⟩, s, true) := by unfold rdText; simp
theorem bad_num (s : ByteArray) : rdNum (s, true) = (0, s, true) := by unfold rdNum; simp
theorem ext_ext (s : ByteArray) (a b : Nat) (h : a ≤ s.size) : (s.extract a s.size).extract b (s.extract a s.size).size = s.extract (a + b) s.size := by
 apply ba_ext
 rw [ext_list, ext_list, ext_list, ByteArray.size_extract]
 rw [List.drop_take, List.drop_drop, List.take_take]
 congr 1
 omega
theorem rdText_of (s : ByteArray) (u : ByteArray × Int × Int) (h : ux s = u) : rdText (s, false) = if u.2.2 = 0 then (u.1, s.extract u.2.1.toNat s.size, false) else (⟨#[]⟩, s, true) := by
 unfold rdText
 simp only [Bool.false_eq_true, if_false]
 rw [h]
theorem rdNum_of (s : ByteArray) (u : Int × Int × Int) (h : un s = u) : rdNum (s, false) = if u.2.2 = 0 then (if u.1 > 1099511627776 then (0, s, true) else (u.1, s.extract u.2.1.toNat s.size, false)) else (0, s, true) := by
 unfold rdNum
 simp only [Bool.false_eq_true, if_false]
 rw [h]
set_option maxHeartbeats 4000000 in
theorem rcommit (l : List S166) (s : ByteArray) (hs : s.size ≤ 400) (RM : ByteArray → Bool) (PT : El → List S166)
  (hr : ∀ g k, 200 ≤ k → weighlockref24_Room.f k l g = some (RM g)) (hp : ∀ (x : El) k, 200 ≤ k → weighlockref24_Put.f k l x.g x.t x.p x.v = some (PT x)) (k : Nat) (hk : 1000 ≤ k) :
  weighlockref24_commit.f k l s = some (match okE s with | none => (l, false) | some x => if RM x.g = true then (PT x, true) else (l, false)) := by
 obtain ⟨k, rfl⟩ : ∃ k', k = k' + 2 := ⟨k - 2, by omega⟩
 unfold weighlockref24_commit.f okE decE
 obtain ⟨u1, hu1⟩ : ∃ u, ux s = u := ⟨_, rfl⟩
 have hR_u1 := ux_range s
 rw [hu1] at hR_u1
 obtain ⟨a1, a2, a3⟩ := hR_u1
 rw [ux_ref s (k + 2) (by omega) (by omega), hu1]
 simp only [Option.bind_some]
 by_cases e1 : u1.2.2 = 0
 rotate_left
 ·have h1 : rdText (s, false) = (⟨#[]⟩, s, true) := by rw [rdText_of _ _ hu1, if_neg e1]
  rw [if_neg e1, h1]
  simp only [bad_text, bad_num, if_true]
 have h1 : rdText (s, false) = (u1.1, s.extract u1.2.1.toNat s.size, false) := by rw [rdText_of _ _ hu1, if_pos e1]
 rw [if_pos e1, if_pos a1, if_pos a2, h1]
 obtain ⟨n1, hn1⟩ : ∃ n : Nat, u1.2.1 = n := ⟨u1.2.1.toNat, by omega⟩
 rw [hn1] at a2
 simp only [hn1, Int.toNat_natCast]
 have z1 : (s.extract n1 s.size).size = s.size - n1 := by rw [ByteArray.size_extract]; omega
 obtain ⟨s1, hs1⟩ : ∃ s1, s.extract n1 s.size = s1 := ⟨_, rfl⟩
 rw [hs1] at z1
 simp only [hs1]
 obtain ⟨u2, hu2⟩ : ∃ u, ux s1 = u := ⟨_, rfl⟩
 have hR_u2 := ux_range s1
 rw [hu2] at hR_u2
 obtain ⟨b1, b2, b3⟩ := hR_u2
 rw [ux_ref s1 (k + 2) (by omega) (by omega), hu2]
 simp only [Option.bind_some]
 by_cases e2 : u2.2.2 = 0
 rotate_left
 ·have h2 : rdText (s1, false) = (⟨#[]⟩, s1, true) := by rw [rdText_of _ _ hu2, if_neg e2]
  rw [if_neg e2, h2]
  simp only [bad_text, bad_num, if_true]
 have h2 : rdText (s1, false) = (u2.1, s1.extract u2.2.1.toNat s1.size, false) := by rw [rdText_of _ _ hu2, if_pos e2]
 rw [if_pos e2, h2]
 obtain ⟨n2, hn2⟩ : ∃ n : Nat, u2.2.1 = n := ⟨u2.2.1.toNat, by omega⟩
 rw [hn2] at b2
 have w2 := mkA (show wrap64 ((n1 : Int) + (n2 : Int)) = ((n1 + n2 : Nat) : Int) by rw [w64 _ (by omega) (by omega)]; omega)
 have x2 : s1.extract n2 s1.size = s.extract (n1 + n2) s.size := by subst hs1; exact ext_ext s n1 n2 (by omega)
 simp only [hn2, Int.toNat_natCast, w2.out, x2]
 rw [if_pos (by omega), if_pos (by omega)]
 have z2 : (s.extract (n1 + n2) s.size).size = s.size - (n1 + n2) := by rw [ByteArray.size_extract]; omega
 obtain ⟨s2, hs2⟩ : ∃ s2, s.extract (n1 + n2) s.size = s2 := ⟨_, rfl⟩
 rw [hs2] at z2
 simp only [hs2]
 obtain ⟨u3, hu3⟩ : ∃ u, un s2 = u := ⟨_, rfl⟩
 have hR_u3 := un_range s2
 rw [hu3] at hR_u3
 obtain ⟨c0, c1, c2, c3⟩ := hR_u3
 rw [un_ref s2 (k + 2) (by omega) (by omega), hu3]
 simp only [Option.bind_some]
 by_cases e3 : u3.2.2 = 0
 rotate_left
 ·have h3 : rdNum (s2, false) = (0, s2, true) := by rw [rdNum_of _ _ hu3, if_neg e3]
  rw [if_neg e3, h3]
  simp only [bad_num, if_true, weighlockref24_commit.j0]
 rw [if_pos e3]
 by_cases e4 : u3.1 > 3
 ·rw [decide_eq_true e4]
  simp only [weighlockref24_commit.j0, if_true]
  have h3 : (rdNum (s2, false)).1 = 0 ∧ (rdNum (s2, false)).2.2 = true ∨ (rdNum (s2, false)).1 > 3 := by
   rw [rdNum_of _ _ hu3, if_pos e3]
   by_cases e5 : u3.1 > 1099511627776
   ·rw [if_pos e5]; exact .inl ⟨rfl, rfl⟩
   ·rw [if_neg e5]; exact .inr e4
  obtain ⟨r, hr3⟩ : ∃ r, rdNum (s2, false) = r := ⟨_, rfl⟩
  rw [hr3] at h3 ⊢
  obtain ⟨r1, r2, r3⟩ := r
  simp only at h3 ⊢
  rcases h3 with ⟨_, h3⟩ | h3
  ·subst h3
   simp only [bad_num, if_true]
  ·have hm : ∀ g t v, mayB g t r1 v = false := fun g t v => by
    unfold mayB
    rw [decide_eq_false (show ¬ r1 ≤ 3 by omega)]
    simp
   split
   ·rename_i heq
    rfl
   ·rename_i x heq
    split at heq
    ·rename_i heq2
     cases heq
    ·rename_i x2 heq2
     split at heq
     ·rename_i hmm
      revert heq2
      split
      ·intro q; cases q
      ·split
       ·intro q
        obtain rfl := Option.some.inj q
        simp only [hm] at hmm
        cases hmm
       ·intro q; cases q
     ·cases heq
 have h3 : rdNum (s2, false) = (u3.1, s2.extract u3.2.1.toNat s2.size, false) := by rw [rdNum_of _ _ hu3, if_pos e3, if_neg (by omega)]
 rw [h3, decide_eq_false e4]
 obtain ⟨n3, hn3⟩ : ∃ n : Nat, u3.2.1 = n := ⟨u3.2.1.toNat, by omega⟩
 rw [hn3] at c3
 have w3 := mkA (show wrap64 (((n1 + n2 : Nat) : Int) + (n3 : Int)) = ((n1 + n2 + n3 : Nat) : Int) by rw [w64 _ (by omega) (by omega)]; omega)
 have x3 : s2.extract n3 s2.size = s.extract (n1 + n2 + n3) s.size := by rw [← hs2]; exact ext_ext s (n1 + n2) n3 (by omega)
 simp only [weighlockref24_commit.j0, Bool.false_eq_true, if_false, hn3, Int.toNat_natCast, w3.out, x3]
 rw [if_pos (by omega), if_pos (by omega)]
 have z3 : (s.extract (n1 + n2 + n3) s.size).size = s.size - (n1 + n2 + n3) := by rw [ByteArray.size_extract]; omega
 obtain ⟨s3, hs3⟩ : ∃ s3, s.extract (n1 + n2 + n3) s.size = s3 := ⟨_, rfl⟩
 rw [hs3] at z3
 simp only [hs3]
 obtain ⟨u4, hu4⟩ : ∃ u, un s3 = u := ⟨_, rfl⟩
 have hR_u4 := un_range s3
 rw [hu4] at hR_u4
 obtain ⟨d0, d1, d2, d3⟩ := hR_u4
 rw [un_ref s3 (k + 1) (by omega) (by omega), hu4]
 simp only [Option.bind_some]
 by_cases f3 : u4.2.2 = 0
 rotate_left
 ·have h4 : rdNum (s3, false) = (0, s3, true) := by rw [rdNum_of _ _ hu4, if_neg f3]
  rw [if_neg f3, h4]
  simp only [if_true, weighlockref24_commit.j1]
 rw [if_pos f3]
 by_cases f4 : u4.1 > 1048577
 ·rw [if_pos f4]
  simp only [weighlockref24_commit.j1, if_true]
  have h3 : (rdNum (s3, false)).2.2 = true ∨ (rdNum (s3, false)).1 > 1048577 := by
   rw [rdNum_of _ _ hu4, if_pos f3]
   by_cases e5 : u4.1 > 1099511627776
   ·rw [if_pos e5]; exact .inl rfl
   ·rw [if_neg e5]; exact .inr f4
  obtain ⟨r, hr3⟩ : ∃ r, rdNum (s3, false) = r := ⟨_, rfl⟩
  rw [hr3] at h3 ⊢
  obtain ⟨r1, r2, r3⟩ := r
  simp only at h3 ⊢
  rcases h3 with h3 | h3
  ·subst h3
   simp only [if_true]
  ·have hm : ∀ g t q, mayB g t q r1 = false := fun g t q => by
    unfold mayB
    rw [decide_eq_false (show ¬ r1 ≤ 1048577 by omega)]
    simp
   cases r3
   ·simp only [Bool.false_eq_true, if_false]
    by_cases hz : r2.size = 0
    ·rw [if_pos hz]
     simp only [hm, Bool.false_eq_true, if_false]
    ·rw [if_neg hz]
   ·simp only [if_true]
 have h4 : rdNum (s3, false) = (u4.1, s3.extract u4.2.1.toNat s3.size, false) := by rw [rdNum_of _ _ hu4, if_pos f3, if_neg (by omega)]
 rw [h4, if_neg f4]
 obtain ⟨n4, hn4⟩ : ∃ n : Nat, u4.2.1 = n := ⟨u4.2.1.toNat, by omega⟩
 rw [hn4] at d3
 have w4 := mkA (show wrap64 (((n1 + n2 + n3 : Nat) : Int) + (n4 : Int)) = ((n1 + n2 + n3 + n4 : Nat) : Int) by rw [w64 _ (by omega) (by omega)]; omega)
 have z4 : (s3.extract n4 s3.size).size = s3.size - n4 := by rw [ByteArray.size_extract]; omega
 simp only [hn4, Int.toNat_natCast, w4.out, Bool.false_eq_true, if_false, z4, weighlockref24_commit.j1]
 by_cases hz : s3.size - n4 = 0
 rotate_left
 ·rw [if_neg hz]
  have : (((n1 + n2 + n3 + n4 : Nat) : Int) != (s.size : Int)) = true := by
   rw [bne_iff_ne]
   omega
  rw [this]
  rfl
 rw [if_pos hz]
 have : (((n1 + n2 + n3 + n4 : Nat) : Int) != (s.size : Int)) = false := by
  rw [bne_eq_false_iff_eq]
  omega
 rw [this]
 simp only [Bool.false_eq_true, if_false]
 rw [w64 u3.1 (by omega) (by omega), w64 u4.1 (by omega) (by omega)]
 have q1 : u1.1.size ≤ 100000 := by omega
 have q2 : u2.1.size ≤ 100000 := by omega
 rw [rmay_f _ _ _ _ (by omega) (by omega) k (by omega) (by omega)]
 simp only [Option.bind_some]
 by_cases hm : mayB u1.1 u2.1 u3.1 u4.1 = true
 ·rw [if_pos hm, hm, if_pos rfl, hr _ k (by omega)]
  simp only [Option.bind_some]
  by_cases hrm : RM u1.1 = true
  ·rw [if_pos hrm, if_pos hrm, hp ⟨u1.1, u2.1, u3.1, u4.1⟩ k (by omega)]
   rfl
  ·rw [if_neg hrm, if_neg hrm]
 ·rw [if_neg hm, if_neg hm]
end Go.Proofs.Ytohhlkabejangaa.Of
