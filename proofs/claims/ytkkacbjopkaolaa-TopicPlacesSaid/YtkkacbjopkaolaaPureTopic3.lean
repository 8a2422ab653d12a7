import Derived.Test.YtkkacbjopkaolaaPureTopic2
import Derived.Test.YtkkacbjopkaolaaPTopicBx
namespace Go.Proofs.Ytkkacbjopkaolaa.PureTopic3
open Go.RowKit Go.Proofs.YtkkacbjopkaolaaW.PrintWords Go.Proofs.YtkkacbjopkaolaaW.PrintLast Go.Proofs.YtkkacbjopkaolaaW.PrintMore Go.Proofs.Ytkkacbjopkaolaa.Hand Go.Proofs.Ytkkacbjopkaolaa.PTopicA Go.Proofs.Ytkkacbjopkaolaa.PureNums Go.Proofs.Ytkkacbjopkaolaa.PureTopic Go.Proofs.Ytkkacbjopkaolaa.HandTopic Go.Proofs.Ytkkacbjopkaolaa.HandTopic3 Go.Proofs.Ytkkacbjopkaolaa.PureTopic2
set_option linter.unusedVariables false
set_option linter.unusedSimpArgs false

theorem log_ok : PTopicB.weighlocklaw22_log.f 60 = some true := by decide +kernel
theorem topicDecodes : PTopicB.weighlocklaw22_TopicDecodes.Pure := by
  intro s hs
  refine ⟨60, ?_⟩
  unfold PTopicB.weighlocklaw22_TopicDecodes.f
  rw [log_ok]
  by_cases h3 : (s.size : Int) > 300
  · rw [if_pos h3]; rfl
  rw [if_neg h3]
  unfold topic_Decode.f weighlockref22_Decode.f
  rw [if_pos hs, if_pos hs]
  simp only [Option.bind_some]
  rcases dec_same s hs with ⟨h1, h2⟩ | ⟨n, p, a, z, c, k, h1, h2⟩
  · rw [h1, h2]; simp [zeroR]
  · rw [h1, h2]; simp
theorem at_more {α : Type} {f : Nat → Option α} (hm : ∀ k, LeO (f k) (f (k + 1))) {m : Nat} {r : α} (h : f m = some r) (k : Nat) (hk : m ≤ k) : f k = some r := at_rounds hm hk h
theorem log_at (k : Nat) (hk : 60 ≤ k) : PTopicB.weighlocklaw22_log.f k = some true := at_rounds PTopicB.weighlocklaw22_log.mono hk log_ok
theorem ref_enc (n : ByteArray) (p a z : Int) (c : Bool) (hr : rightF n p a z = true) (k : Nat) (hk : 60 ≤ k) : weighlockref22_Encode.f k n p a z c = some (encS n p a z c) := by
  obtain ⟨⟨n1, n2⟩, ⟨p1, p2⟩, ⟨a1, a2⟩, z1, z2⟩ := rightF_parts hr
  have c0 := chain_size n.size (by omega) (by omega)
  have c1 := chain_size p (by omega) (by omega)
  have c2 := chain_size a (by omega) (by omega)
  have c3 := chain_size z (by omega) (by omega)
  have hch : ∀ v : Int, 0 ≤ v → v ≤ 1099511627776 → weighlockref22_chain.f k v = some (strOfNums (chainF 10 v)) := by
    intro v v0 v1
    unfold weighlockref22_chain.f
    rw [wu64 _ (by omega) (by omega), at_rounds (weighlockref01_Chain.mono _) (show 10 ≤ k by omega) (ref_chain 10 v (by omega) (by omega) (by omega) (by omega) (p10 _ (by omega)))]
    rfl
  unfold weighlockref22_Encode.f encS
  rw [ref_text n (by omega) k (by omega), hch p (by omega) (by omega), hch a (by omega) (by omega), hch z (by omega) (by omega)]
  simp only [Option.bind_some]
  rw [if_pos (by simp only [ByteArray.size_append]; omega), if_pos (by simp only [ByteArray.size_append]; omega), if_pos (by simp only [ByteArray.size_append]; omega)]
  cases c
  · rw [if_neg (by simp), if_pos (by simp only [ByteArray.size_append]; omega)]; rfl
  · rw [if_pos rfl, if_pos (by simp only [ByteArray.size_append]; omega)]; rfl
def placesL (n : ByteArray) (p : Nat) : List PTopicB.S40 := (List.range p).map fun i : Nat => ⟨n, (i : Int)⟩
theorem places_loop (n : ByteArray) (p : Nat) (a z : Int) (c : Bool) (hp : p ≤ 4) (d : Nat) : ∀ (k i : Nat), i + d = p → d < k → PTopicB.topic_Places.l0 k (placesL n i) p i n p a z c = some (placesL n p) := by
  induction d with
  | zero =>
    intro k i hi hk
    obtain ⟨k, rfl⟩ : ∃ m, k = m + 1 := ⟨k - 1, by omega⟩
    obtain rfl : i = p := by omega
    simp only [PTopicB.topic_Places.l0]
    rw [if_neg (by omega)]
  | succ d ih =>
    intro k i hi hk
    obtain ⟨k, rfl⟩ : ∃ m, k = m + 1 := ⟨k - 1, by omega⟩
    simp only [PTopicB.topic_Places.l0]
    have hl : (placesL n i).length = i := by simp [placesL]
    rw [if_pos (by omega), if_pos (by rw [hl]; omega), w64 _ (by omega) (by omega)]
    have e : placesL n i ++ [(⟨n, (i : Int)⟩ : PTopicB.S40)] = placesL n (i + 1) := by simp [placesL, List.range_succ]
    rw [e]
    exact ih k (i + 1) (by omega) (by omega)
theorem places_eq (n : ByteArray) (p a z : Int) (c : Bool) (hn : n.size ≤ 140737488351232) (k : Nat) (hk : 20 ≤ k) : PTopicB.topic_Places.f k n p a z c = some (if rightF n p a z = true then placesL n p.toNat else []) := by
  unfold PTopicB.topic_Places.f
  rw [right_eq _ _ _ _ _ hn k hk]
  simp only [Option.bind_some]
  by_cases hr : rightF n p a z = true
  · rw [if_pos hr, if_pos hr]
    obtain ⟨⟨n1, n2⟩, ⟨p1, p2⟩, ⟨a1, a2⟩, z1, z2⟩ := rightF_parts hr
    obtain ⟨m, rfl⟩ := Int.eq_ofNat_of_zero_le (show 0 ≤ p by omega)
    exact places_loop n m a z c (by omega) m k 0 (by omega) (by omega)
  · rw [if_neg hr, if_neg hr]
theorem has_eq (n : ByteArray) (p a z : Int) (c : Bool) (t : ByteArray) (q : Int) (hn : n.size ≤ 140737488351232) (k : Nat) (hk : 20 ≤ k) :
    topic_Has.f k n p a z c t q = some (rightF n p a z && (t.toList == n.toList) && decide (0 ≤ q) && decide (q < p)) := by
  unfold topic_Has.f
  rw [right_eq _ _ _ _ _ hn k hk]
  simp only [Option.bind_some]
  by_cases hr : rightF n p a z = true
  · rw [if_pos hr, hr]
    by_cases ht : t.toList = n.toList
    · rw [if_pos ht]
      by_cases hq : q ≥ 0
      · rw [if_pos hq]; simp [ht, show 0 ≤ q from hq]
      · rw [if_neg hq]; simp [ht, show ¬ 0 ≤ q from hq]
    · rw [if_neg ht]; simp [ht]
  · rw [if_neg hr]; simp [hr]
theorem topicCodes (n : ByteArray) (p a z : Int) (c : Bool) (more : ByteArray) : ∃ k, PTopicB.weighlocklaw22_TopicCodes.f k n p a z c more = some true := by
  refine ⟨1000, ?_⟩
  have far : PTopicB.weighlocklaw22_TopicCodes.j0 1000 more true n p a z c = some true := by
    simp only [PTopicB.weighlocklaw22_TopicCodes.j0]
    rw [if_pos trivial, log_at 999 (by omega)]
    rfl
  unfold PTopicB.weighlocklaw22_TopicCodes.f
  by_cases hn : (n.size : Int) > 300
  · rw [if_pos hn]; exact far
  rw [if_neg hn]
  by_cases hm : (more.size : Int) > 300
  · rw [decide_eq_true hm]; exact far
  rw [decide_eq_false hm]
  simp only [PTopicB.weighlocklaw22_TopicCodes.j0]
  rw [if_neg (by simp), ref_right n p a z c (by omega) 999 (by omega), right_eq n p a z c (by omega) 999 (by omega), name_eq n (by omega) 999 (by omega), ref_name n (by omega) 999 (by omega)]
  unfold topic_Encode.f
  rw [if_pos (by omega)]
  by_cases hr : rightF n p a z = true
  · rw [if_pos hr]
    obtain ⟨hz, hd⟩ := dec_enc n more p a z c hr (by omega)
    simp only [Option.bind_some, bne_self_eq_false, Bool.false_eq_true, if_false, PTopicB.weighlocklaw22_TopicCodes.j1]
    rw [if_pos hr, ref_enc n p a z c hr 998 (by omega), log_at 998 (by omega)]
    unfold topic_Decode.f
    rw [if_pos (by rw [← ByteArray.size_append]; omega), if_pos hz, hd]
    simp
  · rw [if_neg hr]
    simp only [Option.bind_some, bne_self_eq_false, Bool.false_eq_true, if_false, PTopicB.weighlocklaw22_TopicCodes.j1]
    rw [if_neg hr, places_eq n p a z c (by omega) 998 (by omega), if_neg hr, log_at 998 (by omega)]
    simp
theorem law_loop (n : ByteArray) (p : Nat) (a z : Int) (c : Bool) (t : ByteArray) (q : Int) (hn : n.size ≤ 300) (hr : rightF n p a z = true) (d : Nat) : ∀ (k i : Nat) (b : Bool), i + d = p → d + 100 ≤ k →
    PTopicB.weighlocklaw22_TopicPlaces.l0 k (placesL n p) b (placesL n p) p i n p a z c t q = some (((t.toList == n.toList) && decide (0 ≤ q) && decide (q < p)) == (b || ((n.toList == t.toList) && decide ((i : Int) ≤ q) && decide (q < p)))) := by
  have hp : p ≤ 4 := by
    obtain ⟨⟨n1, n2⟩, ⟨p1, p2⟩, ⟨a1, a2⟩, z1, z2⟩ := rightF_parts hr
    omega
  have hl : (placesL n p).length = p := by simp [placesL]
  induction d with
  | zero =>
    intro k i b hi hk
    obtain ⟨k, rfl⟩ : ∃ m, k = m + 1 := ⟨k - 1, by omega⟩
    obtain rfl : i = p := by omega
    simp only [PTopicB.weighlocklaw22_TopicPlaces.l0]
    rw [if_neg (by omega), if_pos (by rw [hl]), has_eq n _ a z c t q (by omega) k (by omega), log_at k (by omega), hr]
    have e : (decide ((i : Int) ≤ q) && decide (q < (i : Int))) = false := by
      rw [Bool.eq_false_iff]; intro h; simp only [Bool.and_eq_true, decide_eq_true_eq] at h; omega
    rw [Bool.and_assoc (n.toList == t.toList), e]
    simp only [Option.bind_some, Bool.true_and, Bool.and_false, Bool.or_false]
    cases b <;> cases ((t.toList == n.toList) && decide (0 ≤ q) && decide (q < (i : Int))) <;> rfl
  | succ d ih =>
    intro k i b hi hk
    obtain ⟨k, rfl⟩ : ∃ m, k = m + 1 := ⟨k - 1, by omega⟩
    simp only [PTopicB.weighlocklaw22_TopicPlaces.l0]
    have hrd : PTopicB.rd_T40 (placesL n p) (i : Int) = ⟨n, (i : Int)⟩ := by
      unfold PTopicB.rd_T40 placesL
      rw [Int.toNat_natCast, List.getD_eq_getElem?_getD, List.getElem?_map, List.getElem?_range (by omega)]
      rfl
    rw [if_pos (by omega), if_pos (by omega), if_pos (by rw [hl]; omega), hrd, has_eq n _ a z c n i (by omega) k (by omega), hr, w64 _ (by omega) (by omega)]
    simp only [if_true, Option.bind_some, Bool.true_and, beq_self_eq_true, show (0 : Int) ≤ (i : Int) by omega, show ((i : Int) < (p : Int)) by omega, decide_true, Bool.and_true]
    have hi1 := fun b => ih k (i + 1) b (by omega) (by omega)
    rw [show (((i + 1 : Nat)) : Int) = (i : Int) + 1 by omega] at hi1
    cases b
    · rw [if_neg (by simp), hi1]
      congr 2
      by_cases hnt : n.toList = t.toList
      · simp only [hnt, beq_self_eq_true, Bool.true_and, Bool.false_or]
        by_cases h1 : (i : Int) = q
        · subst h1; simp; omega
        · have : (((i : Int) == q)) = false := by simpa using h1
          rw [this]
          by_cases h2 : (i : Int) ≤ q
          · simp [h2, show (i : Int) + 1 ≤ q by omega]
          · simp [h2, show ¬ (i : Int) + 1 ≤ q by omega]
      · have : (n.toList == t.toList) = false := by simpa using hnt
        simp [this]
    · rw [if_pos rfl, hi1]
      simp
theorem topicPlaces (n : ByteArray) (p a z : Int) (c : Bool) (t : ByteArray) (q : Int) : ∃ k, PTopicB.weighlocklaw22_TopicPlaces.f k n p a z c t q = some true := by
  refine ⟨1000, ?_⟩
  have far : PTopicB.weighlocklaw22_TopicPlaces.j0 1000 true n p a z c t q = some true := by
    simp only [PTopicB.weighlocklaw22_TopicPlaces.j0]
    rw [if_pos trivial, log_at 999 (by omega)]
    rfl
  unfold PTopicB.weighlocklaw22_TopicPlaces.f
  by_cases hn : (n.size : Int) > 300
  · rw [if_pos hn]; exact far
  rw [if_neg hn]
  by_cases hm : (t.size : Int) > 300
  · rw [decide_eq_true hm]; exact far
  rw [decide_eq_false hm]
  simp only [PTopicB.weighlocklaw22_TopicPlaces.j0]
  rw [if_neg (by simp), ref_right n p a z c (by omega) 999 (by omega), places_eq n p a z c (by omega) 999 (by omega)]
  simp only [Option.bind_some]
  by_cases hr : rightF n p a z = true
  · rw [if_pos hr, if_pos hr]
    obtain ⟨⟨n1, n2⟩, ⟨p1, p2⟩, ⟨a1, a2⟩, z1, z2⟩ := rightF_parts hr
    obtain ⟨m, rfl⟩ := Int.eq_ofNat_of_zero_le (show 0 ≤ p by omega)
    have hl : (placesL n m).length = m := by simp [placesL]
    have e := law_loop n m a z c t q (by omega) hr m 999 0 false (by omega) (by omega)
    rw [Int.toNat_natCast, hl]
    refine e.trans ?_
    have hs : (n.toList == t.toList) = (t.toList == n.toList) := by rw [Bool.eq_iff_iff, beq_iff_eq, beq_iff_eq]; exact ⟨Eq.symm, Eq.symm⟩
    rw [hs]
    simp
  · rw [if_neg hr, if_neg hr, has_eq n p a z c t q (by omega) 999 (by omega), log_at 999 (by omega)]
    simp [hr]
theorem codes_walk (n : ByteArray) (p a z : Int) (c : Bool) (more : ByteArray) (w : World) :
    Calls Try.prog 3 #[.agg #[.string n, .int .i64 p, .int .i64 a, .int .i64 z, .bool c], .string more] w fun e w' => e = .returned (.bool true) ∧ Below w.heap.size w w' := by
  obtain ⟨k, h⟩ := topicCodes n p a z c more
  exact PTopicB.weighlocklaw22_TopicCodes.calls k n p a z c more true w h
theorem places_walk (n : ByteArray) (p a z : Int) (c : Bool) (t : ByteArray) (q : Int) (w : World) :
    Calls Try.prog 5 #[.agg #[.string n, .int .i64 p, .int .i64 a, .int .i64 z, .bool c], .agg #[.string t, .int .i64 q]] w fun e w' => e = .returned (.bool true) ∧ Below w.heap.size w w' := by
  obtain ⟨k, h⟩ := topicPlaces n p a z c t q
  exact PTopicB.weighlocklaw22_TopicPlaces.calls k n p a z c t q true w h
end Go.Proofs.Ytkkacbjopkaolaa.PureTopic3
