import Derived.Test.YtkkacbjopkaolaaPureTopic
namespace Go.Proofs.Ytkkacbjopkaolaa.HandTopic
open Go.RowKit Go.Proofs.YtkkacbjopkaolaaW.PrintWords Go.Proofs.YtkkacbjopkaolaaW.PrintLast Go.Proofs.YtkkacbjopkaolaaW.PrintMore Go.Proofs.Ytkkacbjopkaolaa.Hand Go.Proofs.Ytkkacbjopkaolaa.PTopicA Go.Proofs.Ytkkacbjopkaolaa.PureNums Go.Proofs.Ytkkacbjopkaolaa.PureTopic
set_option linter.unusedVariables false

def flagS (c : Bool) : ByteArray := if c = true then ⟨#[1]⟩ else ⟨#[0]⟩
def encS (n : ByteArray) (p a z : Int) (c : Bool) : ByteArray := (((((strOfNums (chainF 10 n.size) ++ n) ++ strOfNums (chainF 10 p)) ++ strOfNums (chainF 10 a)) ++ strOfNums (chainF 10 z)) ++ flagS c)
def topic_Encode.f (n : ByteArray) (p a z : Int) (c : Bool) : Option (ByteArray × Int) := if n.size ≤ 140737488351232 then (if rightF n p a z = true then some (encS n p a z c, 0) else some (⟨#[]⟩, 1)) else none
theorem sum_ok {x y : ByteArray} {m : Nat} (h : x.size + y.size ≤ m) (hm : m ≤ 100000) : (9223372036854775807 < x.size + y.size) = False := eq_false (by omega)
set_option maxHeartbeats 2000000 in
theorem enc_good (n T C1 C2 C3 : ByteArray) (p a z : Int) (c : Bool) (w : World) (hr : topic_Right.f 20 n p a z c = some true) (hT : nums_Text.f n = some T) (h1 : nums_Chain.f p = some C1) (h2 : nums_Chain.f a = some C2) (h3 : nums_Chain.f z = some C3)
    (sT : T.size ≤ 1000) (s1 : C1.size ≤ 1000) (s2 : C2.size ≤ 1000) (s3 : C3.size ≤ 1000) (p0 : 0 ≤ p) (p1 : p ≤ 1099511627776) (a0 : 0 ≤ a) (a1 : a ≤ 1099511627776) (z0 : 0 ≤ z) (z1 : z ≤ 1099511627776) :
    Calls Try.prog 7 #[.agg #[.string n, .int .i64 p, .int .i64 a, .int .i64 z, .bool c]] w fun e w' => e = .returned (.tuple #[.string ((((T ++ C1) ++ C2) ++ C3) ++ flagS c), .int .i64 0]) ∧ Below w.heap.size w w' := by
  have HR := Aside0.mk hr
  have HT := Aside0.mk hT
  have H1 := Aside0.mk h1
  have H2 := Aside0.mk h2
  have H3 := Aside0.mk h3
  have i0 : ∀ w, (Instr.index 43 (.agg #[.int .i64 p, .int .i64 a, .int .i64 z]) (.int .i64 0)).run Try.prog w = .ok (.int .i64 p) w := fun _ => by kernel_rfl
  have i1 : ∀ w, (Instr.index 43 (.agg #[.int .i64 p, .int .i64 a, .int .i64 z]) (.int .i64 1)).run Try.prog w = .ok (.int .i64 a) w := fun _ => by kernel_rfl
  have i2 : ∀ w, (Instr.index 43 (.agg #[.int .i64 p, .int .i64 a, .int .i64 z]) (.int .i64 2)).run Try.prog w = .ok (.int .i64 z) w := fun _ => by kernel_rfl
  clear hr hT h1 h2 h3
  go_enter Try.func7, Try.ntmps7
  go_wp2_with fail
  refine (topic_Right.calls 20 n p a z c true _ HR.out).mono ?_
  rintro e w1 ⟨rfl, hb⟩
  have hz := hb.size
  simp only [World.size_alloc] at hz
  have hk0 := (hb.cell (p := ⟨w.heap.size, 0, none⟩) (by simp)).trans (show (w.alloc (.cells #[.string n, .int .i64 p, .int .i64 a, .int .i64 z, .bool c] 23)).cell? ⟨w.heap.size, 0, none⟩ = some (.string n) by simp)
  have hk1 := (hb.cell (p := ⟨w.heap.size, 1, none⟩) (by simp)).trans (show (w.alloc (.cells #[.string n, .int .i64 p, .int .i64 a, .int .i64 z, .bool c] 23)).cell? ⟨w.heap.size, 1, none⟩ = some (.int .i64 p) by simp)
  have hk2 := (hb.cell (p := ⟨w.heap.size, 2, none⟩) (by simp)).trans (show (w.alloc (.cells #[.string n, .int .i64 p, .int .i64 a, .int .i64 z, .bool c] 23)).cell? ⟨w.heap.size, 2, none⟩ = some (.int .i64 a) by simp)
  have hk3 := (hb.cell (p := ⟨w.heap.size, 3, none⟩) (by simp)).trans (show (w.alloc (.cells #[.string n, .int .i64 p, .int .i64 a, .int .i64 z, .bool c] 23)).cell? ⟨w.heap.size, 3, none⟩ = some (.int .i64 z) by simp)
  have hk4 := (hb.cell (p := ⟨w.heap.size, 4, none⟩) (by simp)).trans (show (w.alloc (.cells #[.string n, .int .i64 p, .int .i64 a, .int .i64 z, .bool c] 23)).cell? ⟨w.heap.size, 4, none⟩ = some (.bool c) by simp)
  have HB := Aside0.mk (below_step (below_alloc (Below.refl w.heap.size w) (.cells #[.string n, .int .i64 p, .int .i64 a, .int .i64 z, .bool c] 23)) hb)
  clear hb
  go_wp2_with fail
  refine (nums_Text.calls n T _ HT.out).mono ?_
  rintro e w2 ⟨rfl, hb⟩
  have hk1 := (hb.cell (p := ⟨w.heap.size, 1, none⟩) (by simp; omega)).trans hk1
  have hk2 := (hb.cell (p := ⟨w.heap.size, 2, none⟩) (by simp; omega)).trans hk2
  have hk3 := (hb.cell (p := ⟨w.heap.size, 3, none⟩) (by simp; omega)).trans hk3
  have hk4 := (hb.cell (p := ⟨w.heap.size, 4, none⟩) (by simp; omega)).trans hk4
  have HB2 := Aside0.mk (below_step HB.out hb)
  have hz2 : w.heap.size < w2.heap.size := by have := hb.size; omega
  clear hb hk0 hz
  go_wp2_with fail
  clear hk1 hk2 hk3
  refine wp_loop_rounds 4 ?_
  rw [rounds_succ]
  go_wp2_with fail
  refine (nums_Chain.calls p C1 _ H1.out).mono ?_
  rintro e w3 ⟨rfl, hb⟩
  have hk4 := (hb.cell (p := ⟨w.heap.size, 4, none⟩) (by simp; omega)).trans hk4
  have HB3 := Aside0.mk (below_step HB2.out hb)
  have hz3 : w.heap.size < w3.heap.size := by have := hb.size; omega
  have q1 : (9223372036854775807 < T.size + C1.size) = False := eq_false (by omega)
  clear hb
  go_wp2_with fail
  rw [rounds_succ]
  go_wp2_with fail
  refine (nums_Chain.calls a C2 _ H2.out).mono ?_
  rintro e w4 ⟨rfl, hb⟩
  have hk4 := (hb.cell (p := ⟨w.heap.size, 4, none⟩) (by simp; omega)).trans hk4
  have HB4 := Aside0.mk (below_step HB3.out hb)
  have hz4 : w.heap.size < w4.heap.size := by have := hb.size; omega
  have q2 : (9223372036854775807 < T.size + C1.size + C2.size) = False := eq_false (by omega)
  clear hb
  go_wp2_with fail
  rw [rounds_succ]
  go_wp2_with fail
  refine (nums_Chain.calls z C3 _ H3.out).mono ?_
  rintro e w5 ⟨rfl, hb⟩
  have hk4 := (hb.cell (p := ⟨w.heap.size, 4, none⟩) (by simp; omega)).trans hk4
  have HB5 := Aside0.mk (below_step HB4.out hb)
  have hz5 : w.heap.size < w5.heap.size := by have := hb.size; omega
  have q3 : (9223372036854775807 < T.size + C1.size + C2.size + C3.size) = False := eq_false (by omega)
  clear hb
  go_wp2_with fail
  rw [rounds_succ]
  have q4 : (9223372036854775807 < T.size + C1.size + C2.size + C3.size + 1) = False := eq_false (by omega)
  cases c
  · go_wp2_with fail
    go_ret2
    exact ⟨rfl, HB5.out⟩
  · go_wp2_with fail
    go_ret2
    exact ⟨rfl, HB5.out⟩
theorem enc_bad (n : ByteArray) (p a z : Int) (c : Bool) (w : World) (hr : topic_Right.f 20 n p a z c = some false) :
    Calls Try.prog 7 #[.agg #[.string n, .int .i64 p, .int .i64 a, .int .i64 z, .bool c]] w fun e w' => e = .returned (.tuple #[.string ⟨#[]⟩, .int .i64 1]) ∧ Below w.heap.size w w' := by
  have HR := Aside0.mk hr
  clear hr
  go_enter Try.func7, Try.ntmps7
  go_wp2_with fail
  refine (topic_Right.calls 20 n p a z c false _ HR.out).mono ?_
  rintro e w1 ⟨rfl, hb⟩
  have HB := Aside0.mk (below_step (below_alloc (Below.refl w.heap.size w) (.cells #[.string n, .int .i64 p, .int .i64 a, .int .i64 z, .bool c] 23)) hb)
  clear hb
  go_wp2_with fail
  go_ret2
  exact ⟨rfl, HB.out⟩
theorem rightF_parts {n : ByteArray} {p a z : Int} (h : rightF n p a z = true) : (1 ≤ n.size ∧ n.size ≤ 12) ∧ (1 ≤ p ∧ p ≤ 4) ∧ (0 ≤ a ∧ a ≤ 1099511627776) ∧ (0 ≤ z ∧ z ≤ 1099511627776) := by
  unfold rightF nameB at h
  simp only [Bool.and_eq_true, decide_eq_true_eq] at h
  obtain ⟨⟨⟨⟨⟨h1, h2⟩, _⟩, h3⟩, h4⟩, h5⟩ := h
  exact ⟨⟨h1, h2⟩, h3, h4, h5⟩
theorem topic_Encode.calls (a0_0 : ByteArray) (a0_1 a0_2 a0_3 : Int) (a0_4 : Bool) (r1 : ByteArray) (r2 : Int) (w : World) (h : topic_Encode.f a0_0 a0_1 a0_2 a0_3 a0_4 = some (r1, r2)) :
    Calls Try.prog 7 #[.agg #[.string a0_0, .int .i64 a0_1, .int .i64 a0_2, .int .i64 a0_3, .bool a0_4]] w fun e w' => e = .returned (.tuple #[.string r1, .int .i64 r2]) ∧ Below w.heap.size w w' := by
  unfold topic_Encode.f at h
  by_cases hs : a0_0.size ≤ 140737488351232
  case neg => rw [if_neg hs] at h; exact absurd h (by simp)
  rw [if_pos hs] at h
  by_cases hr : rightF a0_0 a0_1 a0_2 a0_3 = true
  · rw [if_pos hr] at h
    obtain ⟨rfl, rfl⟩ := Prod.mk.inj (Option.some.inj h)
    obtain ⟨⟨n1, n2⟩, ⟨p1, p2⟩, ⟨a1, a2⟩, z1, z2⟩ := rightF_parts hr
    refine enc_good a0_0 _ _ _ _ a0_1 a0_2 a0_3 a0_4 w (by rw [right_eq _ _ _ _ _ hs 20 (by omega), hr]) (text_eq a0_0 hs) (chain_f a0_1 (by omega) (by omega)) (chain_f a0_2 (by omega) (by omega)) (chain_f a0_3 (by omega) (by omega)) ?_ ?_ ?_ ?_ (by omega) (by omega) a1 a2 z1 z2
    · rw [ByteArray.size_append]; have := chain_size a0_0.size (by omega) (by omega); omega
    · have := chain_size a0_1 (by omega) (by omega); omega
    · have := chain_size a0_2 (by omega) (by omega); omega
    · have := chain_size a0_3 (by omega) (by omega); omega
  · rw [if_neg hr] at h
    obtain ⟨rfl, rfl⟩ := Prod.mk.inj (Option.some.inj h)
    exact enc_bad a0_0 a0_1 a0_2 a0_3 a0_4 w (by rw [right_eq _ _ _ _ _ hs 20 (by omega), Bool.eq_false_iff.2 hr])

/-- Unchain's answer -/
def unU (s : ByteArray) : Int × Int × Int := (nums_Unchain.f 30 s).getD (0, 0, 0)
def untU (s : ByteArray) : ByteArray × Int × Int := (nums_Untext.f 50 s).getD (⟨#[]⟩, 0, 0)
theorem unU_eq (s : ByteArray) : nums_Unchain.f 30 s = some (unU s) := by
  obtain ⟨n, h⟩ := run_is s
  unfold unU
  rw [nums_spec s n h]
  rfl
theorem untU_eq (s : ByteArray) (hs : s.size ≤ 140737488351232) : nums_Untext.f 50 s = some (untU s) := by
  obtain ⟨n, h⟩ := run_is s
  unfold untU
  rw [untext_eq s n h hs 50 (by omega)]
  rfl
/-- what the closure number makes of the place and the fault, and tells: (number, place, fault) -/
def numF (s : ByteArray) (a : Int) (bad : Bool) : Int × Int × Bool :=
  let u := unU (s.extract a.toNat s.size)
  if (bad || decide (u.2.2 ≠ 0) || decide (u.1 > 1099511627776)) = true then (0, a, true) else (u.1, a + u.2.1, false)
set_option maxHeartbeats 2000000 in
theorem number_calls (B : Nat) (w0 w : World) (sb ab bb : Nat) (s : ByteArray) (at_ : Nat) (bad : Bool) (hs : w.heap[sb]? = some (.cells #[.string s] 9 (0, 0))) (ha : w.heap[ab]? = some (.cells #[.int .i64 at_] 3 (0, 0))) (hb : w.heap[bb]? = some (.cells #[.bool bad] 4 (0, 0)))
    (hB : Below B w0 w) (b1 : B ≤ ab) (b2 : B ≤ bb) (hle : at_ ≤ s.size) (hm : s.size ≤ 140737488351232) :
    Calls Try.prog 21 #[.pointer (some ⟨sb, 0, none⟩), .pointer (some ⟨ab, 0, none⟩), .pointer (some ⟨bb, 0, none⟩)] w fun e w' => e = .returned (.int .i64 (numF s at_ bad).1) ∧
      w'.heap[sb]? = some (.cells #[.string s] 9 (0, 0)) ∧ w'.heap[ab]? = some (.cells #[.int .i64 (numF s at_ bad).2.1] 3 (0, 0)) ∧ w'.heap[bb]? = some (.cells #[.bool (numF s at_ bad).2.2] 4 (0, 0)) ∧ w'.heap.size = w.heap.size ∧ Below B w0 w' ∧ (∀ i, i ≠ ab → i ≠ bb → w'.heap[i]? = w.heap[i]?) := by
  have c1 : w.cell? ⟨sb, 0, none⟩ = some (.string s) := (blk_cell hs 0).trans rfl
  have c2 : w.cell? ⟨ab, 0, none⟩ = some (.int .i64 at_) := (blk_cell ha 0).trans rfl
  have c3 : w.cell? ⟨bb, 0, none⟩ = some (.bool bad) := (blk_cell hb 0).trans rfl
  have f2 : w.frozen? ⟨ab, 0, none⟩ = false := blk_frozen ha 0
  have f3 : w.frozen? ⟨bb, 0, none⟩ = false := blk_frozen hb 0
  have n1 : sb ≠ ab := blk_ne hs ha (by decide)
  have n2 : sb ≠ bb := blk_ne hs hb (by decide)
  have n3 : ab ≠ bb := blk_ne ha hb (by decide)
  have HS := Aside0.mk hs
  have HA := Aside0.mk ha
  have HBB := Aside0.mk hb
  have HB := Aside0.mk hB
  clear hs ha hb hB
  have hu : Aside0 (nums_Unchain.f 30 (s.extract at_ s.size) = some (unU (s.extract at_ s.size))) := ⟨unU_eq _⟩
  have hran : 0 ≤ (unU (s.extract at_ s.size)).1 ∧ (unU (s.extract at_ s.size)).1 < 18446744073709551616 ∧ 0 ≤ (unU (s.extract at_ s.size)).2.1 ∧ (unU (s.extract at_ s.size)).2.1 ≤ (s.size - at_ : Nat) := by
    obtain ⟨n, hr⟩ := run_is (s.extract at_ s.size)
    have := unch_range _ n hr
    have e : unU (s.extract at_ s.size) = unch (s.extract at_ s.size) n := by unfold unU; rw [nums_spec _ n hr]; rfl
    rw [e]
    have hz : (s.extract at_ s.size).size = s.size - at_ := by rw [ByteArray.size_extract]; omega
    rw [hz] at this
    exact this
  have hF : Aside0 (numF s at_ bad = if (bad || decide ((unU (s.extract at_ s.size)).2.2 ≠ 0) || decide ((unU (s.extract at_ s.size)).1 > 1099511627776)) = true then (0, (at_ : Int), true) else ((unU (s.extract at_ s.size)).1, (at_ : Int) + (unU (s.extract at_ s.size)).2.1, false)) := ⟨by unfold numF; rw [Int.toNat_natCast]⟩
  generalize hU : unU (s.extract at_ s.size) = uu at hu hran hF
  obtain ⟨v, k, e⟩ := uu
  clear hU
  simp only at hran hF
  obtain ⟨r1, r2, r3, r4⟩ := hran
  have fin : ∀ (r : Int) (at2 : Int) (bd : Bool) (W : World), numF s at_ bad = (r, at2, bd) → W.heap[sb]? = some (.cells #[.string s] 9 (0, 0)) → W.heap[ab]? = some (.cells #[.int .i64 at2] 3 (0, 0)) → W.heap[bb]? = some (.cells #[.bool bd] 4 (0, 0)) → W.heap.size = w.heap.size → Below B w0 W → (∀ i, i ≠ ab → i ≠ bb → W.heap[i]? = w.heap[i]?) →
      Ending.returned (.int .i64 r) = Ending.returned (.int .i64 (numF s at_ bad).1) ∧ W.heap[sb]? = some (.cells #[.string s] 9 (0, 0)) ∧ W.heap[ab]? = some (.cells #[.int .i64 (numF s at_ bad).2.1] 3 (0, 0)) ∧ W.heap[bb]? = some (.cells #[.bool (numF s at_ bad).2.2] 4 (0, 0)) ∧ W.heap.size = w.heap.size ∧ Below B w0 W ∧ (∀ i, i ≠ ab → i ≠ bb → W.heap[i]? = w.heap[i]?) := by
    intro r at2 bd W h1 h2 h3 h4 h5 h6 h7
    rw [h1]
    exact ⟨rfl, h2, h3, h4, h5, h6, h7⟩
  have FIN := Aside0.mk fin
  clear fin
  have hout : bad = true ∨ (bad = false ∧ (e != 0) = true) ∨ (bad = false ∧ (e != 0) = false ∧ 1099511627776 < v) ∨ (bad = false ∧ (e != 0) = false ∧ v ≤ 1099511627776) := by
    cases bad
    · by_cases h1 : e = 0
      · have h2 : (e != 0) = false := by rw [h1]; rfl
        rcases Int.lt_or_le 1099511627776 v with h | h
        · exact .inr (.inr (.inl ⟨rfl, h2, h⟩))
        · exact .inr (.inr (.inr ⟨rfl, h2, h⟩))
      · exact .inr (.inl ⟨rfl, by rw [bne_iff_ne]; exact h1⟩)
    · exact .inl rfl
  rcases hout with rfl | ⟨rfl, he⟩ | ⟨rfl, he, hv⟩ | ⟨rfl, he, hv⟩
  case inr.inr.inr =>
    go_enter Try.func21, Try.ntmps21
    go_wp2_with fail
    refine (nums_Unchain.calls 30 (s.extract at_ s.size) v k e _ hu.out).mono ?_
    rintro e1 w1 ⟨rfl, ⟨⟨n1_, rfl⟩⟩⟩
    go_wp2_with fail
    go_ret
    have hv' : decide (1099511627776 < v) = false := decide_eq_false (by omega)
    have he' : e = 0 := by simpa using he
    rw [hv']
    refine FIN.out v ((at_ : Int) + k) false _ ?_ (blk_far (blk_far HS.out n2 _) n1 _) (blk_set (blk_far HA.out n3 _) 0 _) (blk_far (blk_set HBB.out 0 _) (Ne.symm n3) _) (by simp) (((pw_below_drewN HB.out _).setCell b2 _).setCell b1 _) (fun i i1 i2 => (Below.heap_setCell _ _ _ i i1).trans (Below.heap_setCell _ _ _ i i2))
    rw [hF.out, he', if_neg (by simp; omega)]
  all_goals
    go_enter Try.func21, Try.ntmps21
    go_wp2_with fail
    refine (nums_Unchain.calls 30 (s.extract at_ s.size) v k e _ hu.out).mono ?_
    rintro e1 w1 ⟨rfl, ⟨⟨n1_, rfl⟩⟩⟩
    go_wp2_with fail
    go_ret
    first | rw [show decide (1099511627776 < v) = true from decide_eq_true (by omega)] | skip
    refine FIN.out 0 (at_ : Int) true _ ?_ (blk_far HS.out n2 _) (blk_far HA.out n3 _) (blk_set HBB.out 0 _) (by simp) ((pw_below_drewN HB.out _).setCell b2 _) (fun i i1 i2 => Below.heap_setCell _ _ _ i i2)
    rw [hF.out, if_pos (by simp_all)]
end Go.Proofs.Ytkkacbjopkaolaa.HandTopic
