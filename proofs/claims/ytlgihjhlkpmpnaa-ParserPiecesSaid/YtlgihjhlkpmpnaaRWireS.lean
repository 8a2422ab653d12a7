import Derived.Test.YtlgihjhlkpmpnaaRWireR
namespace Go.Proofs.Ytlgihjhlkpmpnaa.Wire
set_option linter.unusedVariables false
set_option linter.unusedSimpArgs false
open Go.RowKit Go.Proofs.YtlgihjhlkpmpnaaW.PrintWords Go.Proofs.YtlgihjhlkpmpnaaW.PrintLast Go.Proofs.YtlgihjhlkpmpnaaW.PrintMore Go.Proofs.Ytlgihjhlkpmpnaa.Hand Go.Proofs.Ytlgihjhlkpmpnaa.PWire Go.Proofs.Ytlgihjhlkpmpnaa.PureNums
theorem ba_ext {a b : ByteArray} (h : a.data.toList = b.data.toList) : a = b := by
  apply ByteArray.ext
  exact Array.toList_inj.1 h
theorem ext_list (s : ByteArray) (a b : Nat) : (s.extract a b).data.toList = (s.data.toList.drop a).take (b - a) := by
  rw [ByteArray.data_extract]
  simp
theorem split_mid (s : ByteArray) (a b c : Nat) (h1 : a ≤ b) (h2 : b ≤ c) : s.extract a c = s.extract a b ++ s.extract b c := by
  apply ba_ext
  rw [ByteArray.data_append, Array.toList_append, ext_list, ext_list, ext_list]
  have e : s.data.toList.drop b = (s.data.toList.drop a).drop (b - a) := by rw [List.drop_drop]; congr 1; omega
  rw [e]
  generalize s.data.toList.drop a = l
  have e2 : c - a = (b - a) + (c - b) := by omega
  rw [e2, List.take_add]
theorem ext_all (s : ByteArray) : s.extract 0 s.size = s := by
  apply ba_ext
  rw [ext_list, List.drop_zero, List.take_of_length_le (by rw [data_length]; omega)]
theorem split_at (s : ByteArray) (k : Nat) (h : k ≤ s.size) : s = s.extract 0 k ++ s.extract k s.size := by
  rw [← split_mid s 0 k s.size (by omega) h, ext_all]
theorem un_take (s : ByteArray) (h : (un s).2.2 = 0) : s = chainS (un s).1 ++ s.extract (un s).2.1.toNat s.size := by
  obtain ⟨hu, hn, t, ht, hb⟩ := unch_chain s _ (un_spec s) h
  have hr := un_range s
  have e : un s = unch s (Classical.choose (run_is s)) := rfl
  rw [← e] at hu
  have hc : chainS (un s).1 = t := by
    unfold chainS
    have := chain_f (un s).1 hr.1 hr.2.1
    rw [hu] at this ⊢
    simp only at this ⊢
    rw [this] at ht
    exact Option.some.inj ht
  rw [hc]
  have ht2 : t = s.extract 0 (Classical.choose (run_is s) + 1) := ba_ext (by rw [← ByteArray.toList_eq, ← ByteArray.toList_eq]; exact hb)
  rw [ht2, hu]
  exact split_at s _ (by omega)
theorem ux_take (s : ByteArray) (h : (ux s).2.2 = 0) : s = textS (ux s).1 ++ s.extract (ux s).2.1.toNat s.size := by
  obtain ⟨a, b, c, d⟩ := un_range s
  have ht := un_take s
  unfold ux untx at h ⊢
  generalize un s = u at *
  by_cases e : u.2.2 = 0
  · rw [if_pos e] at h ⊢
    by_cases g : u.1 > 1099511627776
    · rw [if_pos g] at h; simp at h
    · rw [if_neg g] at h ⊢
      by_cases k : (s.size : Int) - u.2.1 < u.1
      · rw [if_pos k] at h; simp at h
      · rw [if_neg k]
        simp only
        have hz : ((s.extract u.2.1.toNat (u.2.1 + u.1).toNat).size : Int) = u.1 := by rw [ByteArray.size_extract]; omega
        unfold textS
        rw [hz, ByteArray.append_assoc, ← split_mid s _ _ _ (by omega) (by omega)]
        exact ht e
  · rw [if_neg e] at h
    exact absurd h e
theorem num_take {r : Rd} (h : (rdNum r).2.2 = false) : r.2 = false ∧ r.1 = chainS (rdNum r).1 ++ (rdNum r).2.1 := by
  unfold rdNum at h ⊢
  split at h
  · simp at h
  · rename_i hb
    rw [if_neg hb]
    split at h
    · rename_i hu
      rw [if_pos hu]
      split at h
      · simp at h
      · rename_i hv
        rw [if_neg hv]
        exact ⟨by simpa using hb, un_take r.1 hu⟩
    · simp at h
theorem text_take {r : Rd} (h : (rdText r).2.2 = false) : r.2 = false ∧ r.1 = textS (rdText r).1 ++ (rdText r).2.1 := by
  unfold rdText at h ⊢
  split at h
  · simp at h
  · rename_i hb
    rw [if_neg hb]
    split at h
    · rename_i hu
      rw [if_pos hu]
      exact ⟨by simpa using hb, ux_take r.1 hu⟩
    · simp at h
theorem flag_take {r : Rd} (h : (rdFlag r).2.2 = false) : r.2 = false ∧ r.1 = flagS (rdFlag r).1 ++ (rdFlag r).2.1 := by
  have hr := rdNum_range r
  unfold rdFlag at h ⊢
  simp only [Bool.or_eq_false_iff, decide_eq_false_iff_not] at h
  obtain ⟨h1, h2⟩ := num_take h.1
  refine ⟨h1, ?_⟩
  simp only
  have e : flagS ((rdNum r).1 == 1) = chainS (rdNum r).1 := by
    unfold flagS
    rcases (show (rdNum r).1 = 0 ∨ (rdNum r).1 = 1 by omega) with h | h <;> rw [h] <;> rfl
  rw [e]
  exact h2
theorem pair_take {r : Rd} (h : (rdPair r).2.2 = false) : r.2 = false ∧ r.1 = pairS (rdPair r).1 ++ (rdPair r).2.1 := by
  unfold rdPair at h ⊢
  obtain ⟨a, b⟩ := text_take h
  obtain ⟨c, d⟩ := text_take a
  obtain ⟨e, f⟩ := flag_take c
  refine ⟨e, ?_⟩
  unfold pairS
  simp only
  rw [ByteArray.append_assoc, ByteArray.append_assoc, ← b, ← d]
  exact f
theorem pairN_take : ∀ (n : Nat) (l : List S102) (r : Rd), (rdPairN n l r).2.2 = false → r.2 = false ∧ pairsS l ++ r.1 = pairsS (rdPairN n l r).1 ++ (rdPairN n l r).2.1 := by
  intro n
  induction n with
  | zero => intro l r h; exact ⟨h, rfl⟩
  | succ n ih =>
    intro l r h
    rw [rdPairN] at h ⊢
    obtain ⟨a, b⟩ := ih _ _ h
    obtain ⟨c, d⟩ := pair_take a
    refine ⟨c, ?_⟩
    rw [← b]
    have e : pairsS (l ++ [(rdPair r).1]) = pairsS l ++ pairS (rdPair r).1 := by unfold pairsS; rw [List.foldl_append]; rfl
    rw [e, ByteArray.append_assoc, ← d]
theorem pairs_take {r : Rd} (h : (rdPairs r).2.2 = false) (hl : (rdPairs r).1.length ≤ 16) : r.2 = false ∧ r.1 = (chainS ((rdPairs r).1.length : Int) ++ pairsS (rdPairs r).1) ++ (rdPairs r).2.1 := by
  have hr := rdNum_range r
  unfold rdPairs at h hl ⊢
  rw [rdPairN_len] at hl ⊢
  obtain ⟨a, b⟩ := pairN_take _ _ _ h
  obtain ⟨c, d⟩ := num_take a
  refine ⟨c, ?_⟩
  have hm : (mn (rdNum r).1 17).toNat ≤ 16 := by simpa using hl
  have e : ((([] : List S102).length + (mn (rdNum r).1 17).toNat : Nat) : Int) = (rdNum r).1 := by
    simp only [List.length_nil, Nat.zero_add]
    unfold mn at hm ⊢
    omega
  rw [e, ByteArray.append_assoc, ← b]
  have e2 : pairsS [] ++ (rdNum r).2.1 = (rdNum r).2.1 := ByteArray.empty_append
  rw [e2]
  exact d
theorem spec_take {r : Rd} {x : Rq} (h : (rdSpec r).2.2 = false) (h1 : x.sn = (rdSpec r).1.n) (h2 : x.sp = (rdSpec r).1.p) (h3 : x.sa = (rdSpec r).1.a) (h4 : x.ss = (rdSpec r).1.z) (h5 : x.sc = (rdSpec r).1.c) : r.2 = false ∧ r.1 = specS x ++ (rdSpec r).2.1 := by
  unfold specS
  rw [h1, h2, h3, h4, h5]
  unfold rdSpec at h ⊢
  simp only at h ⊢
  obtain ⟨a, b⟩ := flag_take h
  obtain ⟨c, d⟩ := num_take a
  obtain ⟨e, f⟩ := num_take c
  obtain ⟨g, i⟩ := num_take e
  obtain ⟨j, k⟩ := text_take g
  refine ⟨j, ?_⟩
  simp only [ByteArray.append_assoc]
  rw [← b, ← d, ← f, ← i]
  exact k
theorem empty_of {s : ByteArray} (h : s.toList = []) : s = ⟨#[]⟩ := ba_ext (by rw [← ByteArray.toList_eq, h])
theorem app_nil (s : ByteArray) : s ++ (⟨#[]⟩ : ByteArray) = s := ByteArray.append_empty
theorem nil_app (s : ByteArray) : (⟨#[]⟩ : ByteArray) ++ s = s := ByteArray.empty_append
theorem let76 (x : Rq) (l : List S102) : letterS x l 76 = chainS x.label := rfl
theorem let80 (x : Rq) (l : List S102) : letterS x l 80 = chainS x.pp := rfl
theorem let79 (x : Rq) (l : List S102) : letterS x l 79 = chainS x.off := rfl
theorem let77 (x : Rq) (l : List S102) : letterS x l 77 = chainS x.most := rfl
theorem let69 (x : Rq) (l : List S102) : letterS x l 69 = chainS x.gen := rfl
theorem let82 (x : Rq) (l : List S102) : letterS x l 82 = chainS x.prod := rfl
theorem let83 (x : Rq) (l : List S102) : letterS x l 83 = chainS x.seq := rfl
theorem let112 (x : Rq) (l : List S102) : letterS x l 112 = chainS x.tp := rfl
theorem let84 (x : Rq) (l : List S102) : letterS x l 84 = textS x.pt := rfl
theorem let71 (x : Rq) (l : List S102) : letterS x l 71 = textS x.grp := rfl
theorem let78 (x : Rq) (l : List S102) : letterS x l 78 = textS x.mem := rfl
theorem let116 (x : Rq) (l : List S102) : letterS x l 116 = textS x.tt := rfl
theorem let66 (x : Rq) (l : List S102) : letterS x l 66 = chainS (l.length : Int) ++ pairsS l := rfl
theorem let67 (x : Rq) (l : List S102) : letterS x l 67 = specS x := rfl
theorem body_back1 (i : Int) (a : Rd) (h : (reqL (rq0 1 i) a (lets (formF 1))).r.2 = false) (he : (reqL (rq0 1 i) a (lets (formF 1))).r.1.toList = []) (hm : mayB (reqL (rq0 1 i) a (lets (formF 1))).y (reqL (rq0 1 i) a (lets (formF 1))).ps = true) : bodyOf (reqL (rq0 1 i) a (lets (formF 1))).y (reqL (rq0 1 i) a (lets (formF 1))).ps = a.1 := by
  have hp : (reqL (rq0 1 i) a (lets (formF 1))).ps.length ≤ 16 := by
    refine Nat.le_of_not_lt fun hh => ?_
    rw [may_pairs rfl hh] at hm
    simp at hm
  have hb : bodyOf (reqL (rq0 1 i) a (lets (formF 1))).y (reqL (rq0 1 i) a (lets (formF 1))).ps = bodyS (reqL (rq0 1 i) a (lets (formF 1))).y (reqL (rq0 1 i) a (lets (formF 1))).ps [76, 84, 80, 82, 83, 66] := rfl
  rw [hb]
  clear hb hm
  rw [show lets (formF 1) = [76, 84, 80, 82, 83, 66] from rfl] at *
  simp only [reqL, List.foldl_cons, List.foldl_nil, step66, step76, step80, step82, step83, step84] at *
  simp only [bodyS, List.foldl_cons, List.foldl_nil, let66, let76, let80, let82, let83, let84, nil_app, ByteArray.append_assoc]
  obtain ⟨a1, b1⟩ := pairs_take h hp
  obtain ⟨a2, b2⟩ := num_take a1
  obtain ⟨a3, b3⟩ := num_take a2
  obtain ⟨a4, b4⟩ := num_take a3
  obtain ⟨a5, b5⟩ := text_take a4
  obtain ⟨a6, b6⟩ := num_take a5
  rw [empty_of he, app_nil] at b1
  rw [← b1, ← b2, ← b3, ← b4, ← b5, ← b6]
theorem body_back2 (i : Int) (a : Rd) (h : (reqL (rq0 2 i) a (lets (formF 2))).r.2 = false) (he : (reqL (rq0 2 i) a (lets (formF 2))).r.1.toList = []) (hm : mayB (reqL (rq0 2 i) a (lets (formF 2))).y (reqL (rq0 2 i) a (lets (formF 2))).ps = true) : bodyOf (reqL (rq0 2 i) a (lets (formF 2))).y (reqL (rq0 2 i) a (lets (formF 2))).ps = a.1 := by
  have hb : bodyOf (reqL (rq0 2 i) a (lets (formF 2))).y (reqL (rq0 2 i) a (lets (formF 2))).ps = bodyS (reqL (rq0 2 i) a (lets (formF 2))).y (reqL (rq0 2 i) a (lets (formF 2))).ps [76, 84, 80, 79, 77] := rfl
  rw [hb]
  clear hb hm
  rw [show lets (formF 2) = [76, 84, 80, 79, 77] from rfl] at *
  simp only [reqL, List.foldl_cons, List.foldl_nil, step76, step77, step79, step80, step84] at *
  simp only [bodyS, List.foldl_cons, List.foldl_nil, let76, let77, let79, let80, let84, nil_app, ByteArray.append_assoc]
  obtain ⟨a1, b1⟩ := num_take h
  obtain ⟨a2, b2⟩ := num_take a1
  obtain ⟨a3, b3⟩ := num_take a2
  obtain ⟨a4, b4⟩ := text_take a3
  obtain ⟨a5, b5⟩ := num_take a4
  rw [empty_of he, app_nil] at b1
  rw [← b1, ← b2, ← b3, ← b4, ← b5]
theorem body_back3 (i : Int) (a : Rd) (h : (reqL (rq0 3 i) a (lets (formF 3))).r.2 = false) (he : (reqL (rq0 3 i) a (lets (formF 3))).r.1.toList = []) (hm : mayB (reqL (rq0 3 i) a (lets (formF 3))).y (reqL (rq0 3 i) a (lets (formF 3))).ps = true) : bodyOf (reqL (rq0 3 i) a (lets (formF 3))).y (reqL (rq0 3 i) a (lets (formF 3))).ps = a.1 := by
  have hb : bodyOf (reqL (rq0 3 i) a (lets (formF 3))).y (reqL (rq0 3 i) a (lets (formF 3))).ps = bodyS (reqL (rq0 3 i) a (lets (formF 3))).y (reqL (rq0 3 i) a (lets (formF 3))).ps [67] := rfl
  rw [hb]
  clear hb hm
  rw [show lets (formF 3) = [67] from rfl] at *
  simp only [reqL, List.foldl_cons, List.foldl_nil, step67] at *
  simp only [bodyS, List.foldl_cons, List.foldl_nil, let67, nil_app, ByteArray.append_assoc]
  obtain ⟨a1, b1⟩ := spec_take (x := {rq0 3 i with sn := (rdSpec a).1.n, sp := (rdSpec a).1.p, sa := (rdSpec a).1.a, ss := (rdSpec a).1.z, sc := (rdSpec a).1.c}) h rfl rfl rfl rfl rfl
  rw [empty_of he, app_nil] at b1
  rw [← b1]
theorem body_back4 (i : Int) (a : Rd) (h : (reqL (rq0 4 i) a (lets (formF 4))).r.2 = false) (he : (reqL (rq0 4 i) a (lets (formF 4))).r.1.toList = []) (hm : mayB (reqL (rq0 4 i) a (lets (formF 4))).y (reqL (rq0 4 i) a (lets (formF 4))).ps = true) : bodyOf (reqL (rq0 4 i) a (lets (formF 4))).y (reqL (rq0 4 i) a (lets (formF 4))).ps = a.1 := by
  have hb : bodyOf (reqL (rq0 4 i) a (lets (formF 4))).y (reqL (rq0 4 i) a (lets (formF 4))).ps = bodyS (reqL (rq0 4 i) a (lets (formF 4))).y (reqL (rq0 4 i) a (lets (formF 4))).ps [84] := rfl
  rw [hb]
  clear hb hm
  rw [show lets (formF 4) = [84] from rfl] at *
  simp only [reqL, List.foldl_cons, List.foldl_nil, step84] at *
  simp only [bodyS, List.foldl_cons, List.foldl_nil, let84, nil_app, ByteArray.append_assoc]
  obtain ⟨a1, b1⟩ := text_take h
  rw [empty_of he, app_nil] at b1
  rw [← b1]
theorem body_back5 (i : Int) (a : Rd) (h : (reqL (rq0 5 i) a (lets (formF 5))).r.2 = false) (he : (reqL (rq0 5 i) a (lets (formF 5))).r.1.toList = []) (hm : mayB (reqL (rq0 5 i) a (lets (formF 5))).y (reqL (rq0 5 i) a (lets (formF 5))).ps = true) : bodyOf (reqL (rq0 5 i) a (lets (formF 5))).y (reqL (rq0 5 i) a (lets (formF 5))).ps = a.1 := by
  have hb : bodyOf (reqL (rq0 5 i) a (lets (formF 5))).y (reqL (rq0 5 i) a (lets (formF 5))).ps = bodyS (reqL (rq0 5 i) a (lets (formF 5))).y (reqL (rq0 5 i) a (lets (formF 5))).ps [71, 78, 84] := rfl
  rw [hb]
  clear hb hm
  rw [show lets (formF 5) = [71, 78, 84] from rfl] at *
  simp only [reqL, List.foldl_cons, List.foldl_nil, step71, step78, step84] at *
  simp only [bodyS, List.foldl_cons, List.foldl_nil, let71, let78, let84, nil_app, ByteArray.append_assoc]
  obtain ⟨a1, b1⟩ := text_take h
  obtain ⟨a2, b2⟩ := text_take a1
  obtain ⟨a3, b3⟩ := text_take a2
  rw [empty_of he, app_nil] at b1
  rw [← b1, ← b2, ← b3]
theorem body_back6 (i : Int) (a : Rd) (h : (reqL (rq0 6 i) a (lets (formF 6))).r.2 = false) (he : (reqL (rq0 6 i) a (lets (formF 6))).r.1.toList = []) (hm : mayB (reqL (rq0 6 i) a (lets (formF 6))).y (reqL (rq0 6 i) a (lets (formF 6))).ps = true) : bodyOf (reqL (rq0 6 i) a (lets (formF 6))).y (reqL (rq0 6 i) a (lets (formF 6))).ps = a.1 := by
  have hb : bodyOf (reqL (rq0 6 i) a (lets (formF 6))).y (reqL (rq0 6 i) a (lets (formF 6))).ps = bodyS (reqL (rq0 6 i) a (lets (formF 6))).y (reqL (rq0 6 i) a (lets (formF 6))).ps [71, 78] := rfl
  rw [hb]
  clear hb hm
  rw [show lets (formF 6) = [71, 78] from rfl] at *
  simp only [reqL, List.foldl_cons, List.foldl_nil, step71, step78] at *
  simp only [bodyS, List.foldl_cons, List.foldl_nil, let71, let78, nil_app, ByteArray.append_assoc]
  obtain ⟨a1, b1⟩ := text_take h
  obtain ⟨a2, b2⟩ := text_take a1
  rw [empty_of he, app_nil] at b1
  rw [← b1, ← b2]
theorem body_back7 (i : Int) (a : Rd) (h : (reqL (rq0 7 i) a (lets (formF 7))).r.2 = false) (he : (reqL (rq0 7 i) a (lets (formF 7))).r.1.toList = []) (hm : mayB (reqL (rq0 7 i) a (lets (formF 7))).y (reqL (rq0 7 i) a (lets (formF 7))).ps = true) : bodyOf (reqL (rq0 7 i) a (lets (formF 7))).y (reqL (rq0 7 i) a (lets (formF 7))).ps = a.1 := by
  have hb : bodyOf (reqL (rq0 7 i) a (lets (formF 7))).y (reqL (rq0 7 i) a (lets (formF 7))).ps = bodyS (reqL (rq0 7 i) a (lets (formF 7))).y (reqL (rq0 7 i) a (lets (formF 7))).ps [71, 78, 69] := rfl
  rw [hb]
  clear hb hm
  rw [show lets (formF 7) = [71, 78, 69] from rfl] at *
  simp only [reqL, List.foldl_cons, List.foldl_nil, step69, step71, step78] at *
  simp only [bodyS, List.foldl_cons, List.foldl_nil, let69, let71, let78, nil_app, ByteArray.append_assoc]
  obtain ⟨a1, b1⟩ := num_take h
  obtain ⟨a2, b2⟩ := text_take a1
  obtain ⟨a3, b3⟩ := text_take a2
  rw [empty_of he, app_nil] at b1
  rw [← b1, ← b2, ← b3]
theorem body_back8 (i : Int) (a : Rd) (h : (reqL (rq0 8 i) a (lets (formF 8))).r.2 = false) (he : (reqL (rq0 8 i) a (lets (formF 8))).r.1.toList = []) (hm : mayB (reqL (rq0 8 i) a (lets (formF 8))).y (reqL (rq0 8 i) a (lets (formF 8))).ps = true) : bodyOf (reqL (rq0 8 i) a (lets (formF 8))).y (reqL (rq0 8 i) a (lets (formF 8))).ps = a.1 := by
  have hb : bodyOf (reqL (rq0 8 i) a (lets (formF 8))).y (reqL (rq0 8 i) a (lets (formF 8))).ps = bodyS (reqL (rq0 8 i) a (lets (formF 8))).y (reqL (rq0 8 i) a (lets (formF 8))).ps [71, 78, 69, 84, 80, 79] := rfl
  rw [hb]
  clear hb hm
  rw [show lets (formF 8) = [71, 78, 69, 84, 80, 79] from rfl] at *
  simp only [reqL, List.foldl_cons, List.foldl_nil, step69, step71, step78, step79, step80, step84] at *
  simp only [bodyS, List.foldl_cons, List.foldl_nil, let69, let71, let78, let79, let80, let84, nil_app, ByteArray.append_assoc]
  obtain ⟨a1, b1⟩ := num_take h
  obtain ⟨a2, b2⟩ := num_take a1
  obtain ⟨a3, b3⟩ := text_take a2
  obtain ⟨a4, b4⟩ := num_take a3
  obtain ⟨a5, b5⟩ := text_take a4
  obtain ⟨a6, b6⟩ := text_take a5
  rw [empty_of he, app_nil] at b1
  rw [← b1, ← b2, ← b3, ← b4, ← b5, ← b6]
theorem body_back9 (i : Int) (a : Rd) (h : (reqL (rq0 9 i) a (lets (formF 9))).r.2 = false) (he : (reqL (rq0 9 i) a (lets (formF 9))).r.1.toList = []) (hm : mayB (reqL (rq0 9 i) a (lets (formF 9))).y (reqL (rq0 9 i) a (lets (formF 9))).ps = true) : bodyOf (reqL (rq0 9 i) a (lets (formF 9))).y (reqL (rq0 9 i) a (lets (formF 9))).ps = a.1 := by
  have hb : bodyOf (reqL (rq0 9 i) a (lets (formF 9))).y (reqL (rq0 9 i) a (lets (formF 9))).ps = bodyS (reqL (rq0 9 i) a (lets (formF 9))).y (reqL (rq0 9 i) a (lets (formF 9))).ps [76, 71, 84, 80] := rfl
  rw [hb]
  clear hb hm
  rw [show lets (formF 9) = [76, 71, 84, 80] from rfl] at *
  simp only [reqL, List.foldl_cons, List.foldl_nil, step71, step76, step80, step84] at *
  simp only [bodyS, List.foldl_cons, List.foldl_nil, let71, let76, let80, let84, nil_app, ByteArray.append_assoc]
  obtain ⟨a1, b1⟩ := num_take h
  obtain ⟨a2, b2⟩ := text_take a1
  obtain ⟨a3, b3⟩ := text_take a2
  obtain ⟨a4, b4⟩ := num_take a3
  rw [empty_of he, app_nil] at b1
  rw [← b1, ← b2, ← b3, ← b4]
theorem body_back10 (i : Int) (a : Rd) (h : (reqL (rq0 10 i) a (lets (formF 10))).r.2 = false) (he : (reqL (rq0 10 i) a (lets (formF 10))).r.1.toList = []) (hm : mayB (reqL (rq0 10 i) a (lets (formF 10))).y (reqL (rq0 10 i) a (lets (formF 10))).ps = true) : bodyOf (reqL (rq0 10 i) a (lets (formF 10))).y (reqL (rq0 10 i) a (lets (formF 10))).ps = a.1 := by
  have hb : bodyOf (reqL (rq0 10 i) a (lets (formF 10))).y (reqL (rq0 10 i) a (lets (formF 10))).ps = bodyS (reqL (rq0 10 i) a (lets (formF 10))).y (reqL (rq0 10 i) a (lets (formF 10))).ps [84, 80, 79, 76, 116, 112] := rfl
  rw [hb]
  clear hb hm
  rw [show lets (formF 10) = [84, 80, 79, 76, 116, 112] from rfl] at *
  simp only [reqL, List.foldl_cons, List.foldl_nil, step112, step116, step76, step79, step80, step84] at *
  simp only [bodyS, List.foldl_cons, List.foldl_nil, let112, let116, let76, let79, let80, let84, nil_app, ByteArray.append_assoc]
  obtain ⟨a1, b1⟩ := num_take h
  obtain ⟨a2, b2⟩ := text_take a1
  obtain ⟨a3, b3⟩ := num_take a2
  obtain ⟨a4, b4⟩ := num_take a3
  obtain ⟨a5, b5⟩ := num_take a4
  obtain ⟨a6, b6⟩ := text_take a5
  rw [empty_of he, app_nil] at b1
  rw [← b1, ← b2, ← b3, ← b4, ← b5, ← b6]
theorem body_back11 (i : Int) (a : Rd) (h : (reqL (rq0 11 i) a (lets (formF 11))).r.2 = false) (he : (reqL (rq0 11 i) a (lets (formF 11))).r.1.toList = []) (hm : mayB (reqL (rq0 11 i) a (lets (formF 11))).y (reqL (rq0 11 i) a (lets (formF 11))).ps = true) : bodyOf (reqL (rq0 11 i) a (lets (formF 11))).y (reqL (rq0 11 i) a (lets (formF 11))).ps = a.1 := by
  have hb : bodyOf (reqL (rq0 11 i) a (lets (formF 11))).y (reqL (rq0 11 i) a (lets (formF 11))).ps = bodyS (reqL (rq0 11 i) a (lets (formF 11))).y (reqL (rq0 11 i) a (lets (formF 11))).ps [76] := rfl
  rw [hb]
  clear hb hm
  rw [show lets (formF 11) = [76] from rfl] at *
  simp only [reqL, List.foldl_cons, List.foldl_nil, step76] at *
  simp only [bodyS, List.foldl_cons, List.foldl_nil, let76, nil_app, ByteArray.append_assoc]
  obtain ⟨a1, b1⟩ := num_take h
  rw [empty_of he, app_nil] at b1
  rw [← b1]
theorem body_back12 (i : Int) (a : Rd) (h : (reqL (rq0 12 i) a (lets (formF 12))).r.2 = false) (he : (reqL (rq0 12 i) a (lets (formF 12))).r.1.toList = []) (hm : mayB (reqL (rq0 12 i) a (lets (formF 12))).y (reqL (rq0 12 i) a (lets (formF 12))).ps = true) : bodyOf (reqL (rq0 12 i) a (lets (formF 12))).y (reqL (rq0 12 i) a (lets (formF 12))).ps = a.1 := by
  have hb : bodyOf (reqL (rq0 12 i) a (lets (formF 12))).y (reqL (rq0 12 i) a (lets (formF 12))).ps = bodyS (reqL (rq0 12 i) a (lets (formF 12))).y (reqL (rq0 12 i) a (lets (formF 12))).ps [76, 84, 80] := rfl
  rw [hb]
  clear hb hm
  rw [show lets (formF 12) = [76, 84, 80] from rfl] at *
  simp only [reqL, List.foldl_cons, List.foldl_nil, step76, step80, step84] at *
  simp only [bodyS, List.foldl_cons, List.foldl_nil, let76, let80, let84, nil_app, ByteArray.append_assoc]
  obtain ⟨a1, b1⟩ := num_take h
  obtain ⟨a2, b2⟩ := text_take a1
  obtain ⟨a3, b3⟩ := num_take a2
  rw [empty_of he, app_nil] at b1
  rw [← b1, ← b2, ← b3]
end Go.Proofs.Ytlgihjhlkpmpnaa.Wire
