import Derived.Test.YtkkacbjopkaolaaHandTopic3
namespace Go.Proofs.Ytkkacbjopkaolaa.PureTopic2
open Go.RowKit Go.Proofs.YtkkacbjopkaolaaW.PrintWords Go.Proofs.YtkkacbjopkaolaaW.PrintLast Go.Proofs.YtkkacbjopkaolaaW.PrintMore Go.Proofs.Ytkkacbjopkaolaa.Hand Go.Proofs.Ytkkacbjopkaolaa.PTopicA Go.Proofs.Ytkkacbjopkaolaa.PureNums Go.Proofs.Ytkkacbjopkaolaa.PureTopic Go.Proofs.Ytkkacbjopkaolaa.HandTopic Go.Proofs.Ytkkacbjopkaolaa.HandTopic3
set_option linter.unusedVariables false

theorem num_bad (s : ByteArray) (a : Int) : numF s a true = (0, a, true) := by
  unfold numF; simp
theorem num_ok (s : ByteArray) (m : Nat) (hm : m ≤ s.size) : (chR s m = none ∧ ∃ v x, numF s m false = (v, x, true)) ∨ ∃ v m', chR s m = some (v, m') ∧ numF s m false = (v, ((m' : Nat) : Int), false) ∧ m' ≤ s.size := by
  obtain ⟨v, n, e, hu, hv, hv1, hn⟩ := unU_range s m hm
  unfold chR numF
  rw [Int.toNat_natCast, hu]
  by_cases he : e ≠ 0 ∨ v > 1099511627776
  · refine .inl ⟨by simp only [if_pos he], 0, m, ?_⟩
    have : (false || decide (e ≠ 0) || decide (v > 1099511627776)) = true := by simpa using he
    simp only [if_pos this]
  · refine .inr ⟨v, m + n, by simp only [if_neg he, Int.toNat_natCast], ?_, hn⟩
    have : ¬ (false || decide (e ≠ 0) || decide (v > 1099511627776)) = true := by simpa using he
    simp only [if_neg this]
    simp
/-- both decodings tell the same -/
theorem dec_same (s : ByteArray) (hs : s.size ≤ 140737488351232) :
    (decS s = (⟨#[]⟩, 0, 0, 0, false, 0, 4) ∧ decR s = zeroR) ∨ ∃ n p a z c k, decS s = (n, p, a, z, c, k, 0) ∧ decR s = (n, p, a, z, c, k, true) := by
  obtain ⟨nm, m0, e0, hu0, hm0, hnm⟩ := untU_range s hs
  unfold decS decR
  rw [hu0]
  simp only [Int.toNat_natCast]
  by_cases he : e0 = 0
  case neg => exact .inl ⟨by rw [if_pos he], by rw [if_pos he]⟩
  rw [if_neg (show ¬ (e0 ≠ 0) by simpa using he), if_neg (show ¬ (e0 ≠ 0) by simpa using he)]
  rcases num_ok s m0 hm0 with ⟨h1, v1, x1, g1⟩ | ⟨v1, m1, h1, g1, hm1⟩
  · exact .inl ⟨by simp only [g1, num_bad]; rfl, by simp only [loopR, h1]; rfl⟩
  rcases num_ok s m1 hm1 with ⟨h2, v2, x2, g2⟩ | ⟨v2, m2, h2, g2, hm2⟩
  · exact .inl ⟨by simp only [g1, g2, num_bad]; rfl, by simp only [loopR, h1, h2]; rfl⟩
  rcases num_ok s m2 hm2 with ⟨h3, v3, x3, g3⟩ | ⟨v3, m3, h3, g3, hm3⟩
  · exact .inl ⟨by simp only [g1, g2, g3, num_bad]; rfl, by simp only [loopR, h1, h2, h3]; rfl⟩
  rcases num_ok s m3 hm3 with ⟨h4, v4, x4, g4⟩ | ⟨v4, m4, h4, g4, hm4⟩
  · exact .inl ⟨by simp only [g1, g2, g3, g4]; rfl, by simp only [loopR, h1, h2, h3, h4]; rfl⟩
  simp only [g1, g2, g3, g4, loopR, h1, h2, h3, h4, List.nil_append, List.cons_append, endR, Bool.false_or]
  by_cases hc : (decide (1 < v4) || !rightF nm v1 v2 v3) = true
  · exact .inl ⟨by rw [if_pos hc], by rw [if_pos hc]⟩
  · exact .inr ⟨nm, v1, v2, v3, v4 == 1, m4, by rw [if_neg hc], by rw [if_neg hc]⟩

theorem extract_tail (A B : ByteArray) : (A ++ B).extract A.size (A ++ B).size = B :=
  ByteArray.extract_append_eq_right rfl (by rw [ByteArray.size_append])
theorem u_of (v : Int) (h0 : 0 ≤ v) (h1 : v < 18446744073709551616) (B : ByteArray) : unU (strOfNums (chainF 10 v) ++ B) = (v, ((chainF 10 v).length : Int), 0) := by
  obtain ⟨hr, hu⟩ := run_chain v h0 h1 B
  unfold unU
  rw [nums_spec _ _ hr, hu]
  rfl
theorem num_at (A B : ByteArray) (v : Int) (h0 : 0 ≤ v) (h1 : v ≤ 1099511627776) : numF (A ++ (strOfNums (chainF 10 v) ++ B)) A.size false = (v, ((A ++ strOfNums (chainF 10 v)).size : Int), false) := by
  unfold numF
  rw [Int.toNat_natCast, extract_tail, u_of v h0 (by omega)]
  have : ¬ (false || decide ((0 : Int) ≠ 0) || decide (v > 1099511627776)) = true := by simp; omega
  simp only [if_neg this]
  rw [ByteArray.size_append, strOfNums_size]
  simp
theorem flag_is (c : Bool) : flagS c = strOfNums (chainF 10 (if c = true then 1 else 0)) := by
  cases c <;> decide +kernel
theorem unt_of (n B : ByteArray) (hn : n.size ≤ 1000) (hz : ((strOfNums (chainF 10 n.size) ++ n) ++ B).size ≤ 140737488351232) : untU ((strOfNums (chainF 10 n.size) ++ n) ++ B) = (n, ((strOfNums (chainF 10 n.size) ++ n).size : Int), 0) := by
  obtain ⟨hr, hu⟩ := run_chain n.size (by omega) (by omega) (n ++ B)
  rw [← ByteArray.append_assoc] at hr hu
  unfold untU
  rw [untext_eq _ _ hr hz 50 (by omega), hu]
  unfold untx
  rw [if_pos rfl, if_neg (show ¬ (n.size : Int) > 1099511627776 by omega)]
  have e1 : ((strOfNums (chainF 10 n.size) ++ n) ++ B).size = (chainF 10 n.size).length + n.size + B.size := by rw [ByteArray.size_append, ByteArray.size_append, strOfNums_size]
  rw [if_neg (by rw [e1]; simp only; omega)]
  simp only [Option.getD_some]
  have e2 : (((chainF 10 n.size).length : Int) + (n.size : Int)).toNat = (strOfNums (chainF 10 n.size)).size + n.size := by rw [strOfNums_size]; omega
  have e3 : (((chainF 10 n.size).length : Int)).toNat = (strOfNums (chainF 10 n.size)).size := by rw [strOfNums_size]; omega
  rw [e2, e3]
  have e4 : ((strOfNums (chainF 10 n.size) ++ n) ++ B).extract (strOfNums (chainF 10 n.size)).size ((strOfNums (chainF 10 n.size)).size + n.size) = n := by
    have := extract_mid (strOfNums (chainF 10 n.size)) n B
    rw [str_toList, str_toList] at this
    exact ByteArray.ext (Array.toList_inj.1 this)
  rw [e4, ByteArray.size_append, strOfNums_size]
  simp
/-- decode of encode is the topic, whatever stands behind -/
theorem dec_enc (n more : ByteArray) (p a z : Int) (c : Bool) (hr : rightF n p a z = true) (hm : more.size ≤ 1000) :
    (encS n p a z c ++ more).size ≤ 140737488351232 ∧ decS (encS n p a z c ++ more) = (n, p, a, z, c, ((encS n p a z c).size : Int), 0) := by
  obtain ⟨⟨n1, n2⟩, ⟨p1, p2⟩, ⟨a1, a2⟩, z1, z2⟩ := rightF_parts hr
  have c0 := chain_size n.size (by omega) (by omega)
  have c1 := chain_size p (by omega) (by omega)
  have c2 := chain_size a (by omega) (by omega)
  have c3 := chain_size z (by omega) (by omega)
  have hf : 0 ≤ (if c = true then (1 : Int) else 0) ∧ (if c = true then (1 : Int) else 0) ≤ 1 := by cases c <;> simp
  have c4 := chain_size (if c = true then (1 : Int) else 0) (by omega) (by omega)
  have hz : (encS n p a z c ++ more).size ≤ 140737488351232 := by
    unfold encS
    rw [flag_is]
    simp only [ByteArray.size_append]
    omega
  refine ⟨hz, ?_⟩
  have hz' := hz
  unfold decS
  unfold encS at hz' ⊢
  rw [flag_is] at hz' ⊢
  generalize hC0 : strOfNums (chainF 10 (n.size : Int)) = C0 at *
  have hu : untU ((C0 ++ n ++ strOfNums (chainF 10 p) ++ strOfNums (chainF 10 a) ++ strOfNums (chainF 10 z) ++ strOfNums (chainF 10 (if c = true then (1 : Int) else 0))) ++ more) = (n, ((C0 ++ n).size : Int), 0) := by
    subst hC0
    simp only [ByteArray.append_assoc] at hz' ⊢
    have := unt_of n (strOfNums (chainF 10 p) ++ (strOfNums (chainF 10 a) ++ (strOfNums (chainF 10 z) ++ (strOfNums (chainF 10 (if c = true then (1 : Int) else 0)) ++ more)))) (by omega)
    simp only [ByteArray.append_assoc] at this
    exact this hz'
  simp only [hu]
  have g1 := num_at (C0 ++ n) (strOfNums (chainF 10 a) ++ (strOfNums (chainF 10 z) ++ (strOfNums (chainF 10 (if c = true then (1 : Int) else 0)) ++ more))) p (by omega) (by omega)
  have g2 := num_at (C0 ++ n ++ strOfNums (chainF 10 p)) (strOfNums (chainF 10 z) ++ (strOfNums (chainF 10 (if c = true then (1 : Int) else 0)) ++ more)) a (by omega) (by omega)
  have g3 := num_at (C0 ++ n ++ strOfNums (chainF 10 p) ++ strOfNums (chainF 10 a)) (strOfNums (chainF 10 (if c = true then (1 : Int) else 0)) ++ more) z (by omega) (by omega)
  have g4 := num_at (C0 ++ n ++ strOfNums (chainF 10 p) ++ strOfNums (chainF 10 a) ++ strOfNums (chainF 10 z)) more (if c = true then (1 : Int) else 0) (by omega) (by omega)
  simp only [← ByteArray.append_assoc] at g1 g2 g3 g4
  simp only [g1, g2, g3, g4, hr]
  cases c <;> simp
end Go.Proofs.Ytkkacbjopkaolaa.PureTopic2
