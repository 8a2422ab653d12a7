import Derived.Test.YtlgihjhlkpmpnaaZWireY
namespace Go.Proofs.Ytlgihjhlkpmpnaa.Wire
set_option linter.unusedVariables false
set_option linter.unusedSimpArgs false
open Go.RowKit Go.Proofs.YtlgihjhlkpmpnaaW.PrintWords Go.Proofs.YtlgihjhlkpmpnaaW.PrintLast Go.Proofs.YtlgihjhlkpmpnaaW.PrintMore Go.Proofs.Ytlgihjhlkpmpnaa.Hand Go.Proofs.Ytlgihjhlkpmpnaa.PWire Go.Proofs.Ytlgihjhlkpmpnaa.PureNums
theorem ext_tail (a b : ByteArray) : (a ++ b).extract a.size (a ++ b).size = b := by
  apply ba_ext
  rw [ext_list, ByteArray.data_append, Array.toList_append, ByteArray.size_append]
  have e : a.size = a.data.toList.length := (data_length a).symm
  have e2 : b.size = b.data.toList.length := (data_length b).symm
  rw [e, e2, List.drop_left, List.take_of_length_le (by omega)]
theorem un_chain (v : Int) (h0 : 0 ≤ v) (h1 : v < 18446744073709551616) (more : ByteArray) : un (chainS v ++ more) = (v, ((chainS v).size : Int), 0) := by
  have r := run_chain v h0 h1 more
  have a := nums_spec _ _ r.1
  rw [r.2] at a
  have b := un_nums (chainS v ++ more) 30 (Nat.le_refl _)
  have e : (chainS v).size = (chainF 10 v).length := by unfold chainS; exact strOfNums_size _
  rw [e]
  have : nums_Unchain.f 30 (chainS v ++ more) = some (v, ((chainF 10 v).length : Int), 0) := a
  rw [this] at b
  exact (Option.some.inj b).symm
theorem up_rng {v : Int} (h : upToB v = true) : 0 ≤ v ∧ v ≤ 1099511627776 := by
  unfold upToB at h
  simp only [Bool.and_eq_true, decide_eq_true_eq] at h
  exact h
theorem num_fwd (v : Int) (h : upToB v = true) (more : ByteArray) : rdNum (chainS v ++ more, false) = (v, (more, false)) := by
  have hr := up_rng h
  unfold rdNum
  simp only
  rw [un_chain v hr.1 (by omega) more]
  simp only [Bool.false_eq_true, if_false, if_true]
  rw [if_neg (by omega), Int.toNat_natCast, ext_tail]
theorem text_fwd (s : ByteArray) (hs : s.size ≤ 1000000) (more : ByteArray) : rdText (textS s ++ more, false) = (s, (more, false)) := by
  have e : textS s ++ more = chainS (s.size : Int) ++ (s ++ more) := by unfold textS; rw [ByteArray.append_assoc]
  have hu := un_chain (s.size : Int) (by omega) (by omega) (s ++ more)
  have hx : ux (textS s ++ more) = (s, ((textS s).size : Int), 0) := by
    unfold ux untx
    rw [e, hu]
    simp only [if_true]
    rw [if_neg (by omega), if_neg (by simp only [ByteArray.size_append]; omega)]
    have e3 : ((textS s).size : Int) = ((chainS (s.size : Int)).size : Int) + (s.size : Int) := by unfold textS; rw [ByteArray.size_append]; omega
    rw [e3]
    have e4 : (((chainS (s.size : Int)).size : Int)).toNat = (chainS (s.size : Int)).size := by omega
    have e5 : (((chainS (s.size : Int)).size : Int) + (s.size : Int)).toNat = (chainS (s.size : Int)).size + s.size := by omega
    rw [e4, e5]
    have e6 : (chainS (s.size : Int) ++ (s ++ more)).extract (chainS (s.size : Int)).size ((chainS (s.size : Int)).size + s.size) = s := by
      rw [← ByteArray.append_assoc]
      have := extract_mid (chainS (s.size : Int)) s more
      rw [ByteArray.toList_eq, ByteArray.toList_eq] at this
      exact ba_ext this
    rw [e6]
  unfold rdText
  simp only
  rw [hx]
  simp only [Bool.false_eq_true, if_false, if_true]
  rw [Int.toNat_natCast, ext_tail]
theorem flag_fwd (b : Bool) (more : ByteArray) : rdFlag (flagS b ++ more, false) = (b, (more, false)) := by
  unfold rdFlag flagS
  cases b
  · rw [if_neg (by simp), num_fwd 0 (by decide)]; rfl
  · rw [if_pos rfl, num_fwd 1 (by decide)]; rfl
theorem pair_fwd (p : S102) (h : pairB p = true) (more : ByteArray) : rdPair (pairS p ++ more, false) = (p, (more, false)) := by
  unfold pairB at h
  simp only [Bool.and_eq_true, decide_eq_true_eq] at h
  have e : pairS p ++ more = flagS p.f2 ++ (textS p.f0 ++ (textS p.f1 ++ more)) := by unfold pairS; simp only [ByteArray.append_assoc]
  unfold rdPair
  rw [e, flag_fwd, text_fwd _ (by omega), text_fwd _ (by omega)]
theorem pairsS_cons (p : S102) (l : List S102) : pairsS (p :: l) = pairS p ++ pairsS l := by
  unfold pairsS
  rw [List.foldl_cons, fold_app]
  rw [show (⟨#[]⟩ : ByteArray) ++ pairS p = pairS p from ByteArray.empty_append]
theorem pairN_fwd (more : ByteArray) : ∀ (l acc : List S102), l.all pairB = true → rdPairN l.length acc (pairsS l ++ more, false) = (acc ++ l, (more, false)) := by
  intro l
  induction l with
  | nil => intro acc _; simp only [List.length_nil, rdPairN, List.append_nil]; unfold pairsS; rw [List.foldl_nil, emp_app]
  | cons p l ih =>
    intro acc h
    rw [List.all_cons, Bool.and_eq_true] at h
    rw [List.length_cons, rdPairN, pairsS_cons, ByteArray.append_assoc, pair_fwd p h.1]
    simp only
    rw [ih _ h.2, List.append_assoc]
    rfl
theorem pairs_fwd (l : List S102) (h : pairsB l = true) (more : ByteArray) : rdPairs ((chainS (l.length : Int) ++ pairsS l) ++ more, false) = (l, (more, false)) := by
  unfold pairsB at h
  simp only [Bool.and_eq_true, decide_eq_true_eq] at h
  unfold rdPairs
  rw [ByteArray.append_assoc, num_fwd _ (by unfold upToB; rw [decide_eq_true (by omega), decide_eq_true (by omega)]; rfl)]
  simp only
  have e : (mn (l.length : Int) 17).toNat = l.length := by
    unfold mn
    split <;> omega
  rw [e, pairN_fwd more l [] h.2, List.nil_append]
theorem spec_fwd (x : Rq) (h : specB x = true) (more : ByteArray) : rdSpec (specS x ++ more, false) = (⟨x.sn, x.sp, x.sa, x.ss, x.sc⟩, (more, false)) := by
  unfold specB at h
  simp only [Bool.and_eq_true, decide_eq_true_eq] at h
  obtain ⟨⟨⟨h1, h2⟩, h3⟩, h4⟩ := h
  have e : specS x ++ more = textS x.sn ++ (chainS x.sp ++ (chainS x.sa ++ (chainS x.ss ++ (flagS x.sc ++ more)))) := by unfold specS; simp only [ByteArray.append_assoc]
  unfold rdSpec
  rw [e]
  simp only [text_fwd _ (show x.sn.size ≤ 1000000 by omega), num_fwd _ h2, num_fwd _ h3, num_fwd _ h4, flag_fwd]
theorem numF_snd (x y : Rq) (c : Int) : (numF y c).2 = (numF x c).2 := by
  unfold numF
  repeat' split
  all_goals rfl
theorem textF_snd (x y : Rq) (c : Int) : (textF y c).2 = (textF x c).2 := by
  unfold textF
  repeat' split
  all_goals rfl
theorem step_fwd (x y : Rq) (l ps : List S102) (c : Int) (hc : okLetter x l c = true) (more : ByteArray) : reqStep ⟨y, ps, (letterS x l c ++ more, false)⟩ c = ⟨cleanStep x y c, if c = 66 then l else ps, (more, false)⟩ := by
  have hn := ok_num hc
  have ht : (textF x c).1.size ≤ 1000000 := by
    unfold okLetter at hc
    simp only [Bool.and_eq_true, decide_eq_true_eq] at hc
    omega
  unfold reqStep cleanStep letterS
  simp only
  rw [numF_snd x y, textF_snd x y]
  by_cases h1 : (numF x c).2 = true
  · have hne := numF_excl h1
    rw [if_pos h1, if_pos h1, if_pos h1, num_fwd _ hn, if_neg hne.2.1]
  rw [if_neg h1, if_neg h1, if_neg h1]
  by_cases h2 : (textF x c).2 = true
  · have hne := textF_excl h2
    rw [if_pos h2, if_pos h2, if_pos h2, text_fwd _ ht, if_neg hne.2.1]
  rw [if_neg h2, if_neg h2, if_neg h2]
  by_cases h3 : c = 66
  · subst h3
    rw [if_pos rfl, if_pos rfl, pairs_fwd l (ok_pairs hc), if_neg (by decide), if_pos rfl]
  rw [if_neg h3, if_neg h3, if_neg h3]
  by_cases h4 : c = 67
  · subst h4
    rw [if_pos rfl, if_pos rfl, if_pos rfl, spec_fwd x (ok_spec hc)]
  rw [if_neg h4, if_neg h4, if_neg h4, emp_app]
theorem bodyS_cons (x : Rq) (l : List S102) (c : Int) (ls : List Int) : bodyS x l (c :: ls) = letterS x l c ++ bodyS x l ls := by
  unfold bodyS
  rw [List.foldl_cons, fold_app]
  rw [emp_app]
theorem fold_fwd (x : Rq) (l : List S102) : ∀ (ls : List Int) (y : Rq) (ps : List S102), ls.all (okLetter x l) = true → ls.foldl reqStep ⟨y, ps, (bodyS x l ls, false)⟩ = ⟨ls.foldl (cleanStep x) y, if (66 : Int) ∈ ls then l else ps, (⟨#[]⟩, false)⟩ := by
  intro ls
  induction ls with
  | nil => intro y ps _; rfl
  | cons c ls ih =>
    intro y ps h
    rw [List.all_cons, Bool.and_eq_true] at h
    rw [List.foldl_cons, bodyS_cons, step_fwd x y l ps c h.1, ih _ _ h.2, List.foldl_cons]
    congr 1
    by_cases hm : (66 : Int) ∈ ls
    · rw [if_pos hm, if_pos (List.mem_cons_of_mem _ hm)]
    · rw [if_neg hm]
      by_cases hc : c = 66
      · rw [if_pos hc, if_pos (by rw [hc]; exact List.mem_cons_self)]
      · rw [if_neg hc, if_neg (by simp only [List.mem_cons, not_or]; exact ⟨fun e => hc e.symm, hm⟩)]
theorem req_fwd (x : Rq) (l : List S102) (hm : mayB x l = true) : reqL (rq0 x.kind x.id) (bodyOf x l, false) (lets (formF x.kind)) = ⟨cleanL x (lets (formF x.kind)), pairsL l (lets (formF x.kind)), (⟨#[]⟩, false)⟩ := by
  unfold reqL bodyOf cleanL pairsL
  exact fold_fwd x l _ _ _ (may_parts hm).2.2.1
end Go.Proofs.Ytlgihjhlkpmpnaa.Wire
