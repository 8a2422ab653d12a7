import Derived.Test.YtkkacbjopkaolaaHandTopic
namespace Go.Proofs.Ytkkacbjopkaolaa.HandTopic
open Go.RowKit Go.Proofs.YtkkacbjopkaolaaW.PrintWords Go.Proofs.YtkkacbjopkaolaaW.PrintLast Go.Proofs.YtkkacbjopkaolaaW.PrintMore Go.Proofs.Ytkkacbjopkaolaa.Hand Go.Proofs.Ytkkacbjopkaolaa.PTopicA Go.Proofs.Ytkkacbjopkaolaa.PureNums Go.Proofs.Ytkkacbjopkaolaa.PureTopic
set_option linter.unusedVariables false

/-- which topic bytes begin with -/
def decS (s : ByteArray) : ByteArray × Int × Int × Int × Bool × Int × Int :=
  let t := untU s
  if t.2.2 ≠ 0 then (⟨#[]⟩, 0, 0, 0, false, 0, 4) else
  let n1 := numF s t.2.1 false
  let n2 := numF s n1.2.1 n1.2.2
  let n3 := numF s n2.2.1 n2.2.2
  let n4 := numF s n3.2.1 n3.2.2
  if (n4.2.2 || decide (1 < n4.1) || !rightF t.1 n1.1 n2.1 n3.1) = true then (⟨#[]⟩, 0, 0, 0, false, 0, 4) else (t.1, n1.1, n2.1, n3.1, n4.1 == 1, n4.2.1, 0)
def topic_Decode.f (s : ByteArray) : Option (ByteArray × Int × Int × Int × Bool × Int × Int) := if s.size ≤ 140737488351232 then some (decS s) else none
theorem number_calls' (B : Nat) (w0 w : World) (sb ab bb : Nat) (s : ByteArray) (at_ : Nat) (bad : Bool) (r at2 : Int) (bd : Bool) (hF : numF s at_ bad = (r, at2, bd)) (hs : w.heap[sb]? = some (.cells #[.string s] 9 (0, 0))) (ha : w.heap[ab]? = some (.cells #[.int .i64 at_] 3 (0, 0))) (hb : w.heap[bb]? = some (.cells #[.bool bad] 4 (0, 0)))
    (hB : Below B w0 w) (b1 : B ≤ ab) (b2 : B ≤ bb) (hle : at_ ≤ s.size) (hm : s.size ≤ 140737488351232) :
    Calls Try.prog 21 #[.pointer (some ⟨sb, 0, none⟩), .pointer (some ⟨ab, 0, none⟩), .pointer (some ⟨bb, 0, none⟩)] w fun e w' => e = .returned (.int .i64 r) ∧
      w'.heap[sb]? = some (.cells #[.string s] 9 (0, 0)) ∧ w'.heap[ab]? = some (.cells #[.int .i64 at2] 3 (0, 0)) ∧ w'.heap[bb]? = some (.cells #[.bool bd] 4 (0, 0)) ∧ w'.heap.size = w.heap.size ∧ Below B w0 w' ∧ (∀ i, i ≠ ab → i ≠ bb → w'.heap[i]? = w.heap[i]?) := by
  have := number_calls B w0 w sb ab bb s at_ bad hs ha hb hB b1 b2 hle hm
  rw [hF] at this
  exact this
theorem numF_range (s : ByteArray) (a : Nat) (bad : Bool) (ha : a ≤ s.size) : ∃ (v : Int) (m : Nat) (b : Bool), numF s a bad = (v, (m : Int), b) ∧ m ≤ s.size ∧ 0 ≤ v ∧ v ≤ 1099511627776 := by
  unfold numF
  rw [Int.toNat_natCast]
  obtain ⟨n, hr⟩ := run_is (s.extract a s.size)
  have := unch_range _ n hr
  have e : unU (s.extract a s.size) = unch (s.extract a s.size) n := by unfold unU; rw [nums_spec _ n hr]; rfl
  have hz : (s.extract a s.size).size = s.size - a := by rw [ByteArray.size_extract]; omega
  rw [hz] at this
  rw [e]
  generalize unch (s.extract a s.size) n = u at *
  by_cases h : (bad || decide (u.2.2 ≠ 0) || decide (u.1 > 1099511627776)) = true
  · simp only
    rw [if_pos h]
    exact ⟨0, a, true, rfl, ha, by omega, by omega⟩
  · simp only
    rw [if_neg h]
    have h3 : ¬ u.1 > 1099511627776 := fun q => h (by rw [decide_eq_true q]; simp)
    exact ⟨u.1, (a + u.2.1).toNat, false, by congr 2; omega, by omega, this.1, by omega⟩
theorem untU_range (s : ByteArray) (hs : s.size ≤ 140737488351232) : ∃ (n : ByteArray) (m : Nat) (e : Int), untU s = (n, (m : Int), e) ∧ m ≤ s.size ∧ n.size ≤ s.size := by
  obtain ⟨n, hr⟩ := run_is s
  have e : untU s = untx s (unch s n) := by unfold untU; rw [untext_eq s n hr hs 50 (by omega)]; rfl
  have := unch_range s n hr
  rw [e]
  generalize unch s n = u at *
  unfold untx
  split
  · split
    · exact ⟨_, 0, 2, rfl, by omega, Nat.zero_le _⟩
    · split
      · exact ⟨_, 0, 3, rfl, by omega, Nat.zero_le _⟩
      · exact ⟨_, (u.2.1 + u.1).toNat, 0, by congr 2; omega, by omega, by rw [ByteArray.size_extract]; omega⟩
  · exact ⟨_, 0, _, rfl, by omega, Nat.zero_le _⟩
theorem ret_dec {e : Ending} {n n' : ByteArray} {p p' a a' z z' k k' er er' : Int} {c c' : Bool} (h : e = .returned (.tuple #[.agg #[.string n, .int .i64 p, .int .i64 a, .int .i64 z, .bool c], .int .i64 k, .int .i64 er])) (he : (n', p', a', z', c', k', er') = (n, p, a, z, c, k, er)) : e = .returned (.tuple #[.agg #[.string n', .int .i64 p', .int .i64 a', .int .i64 z', .bool c'], .int .i64 k', .int .i64 er']) := by
  simp only [Prod.mk.injEq] at he
  obtain ⟨rfl, rfl, rfl, rfl, rfl, rfl, rfl⟩ := he
  exact h
set_option maxHeartbeats 8000000 in
theorem dec_calls (s : ByteArray) (n : ByteArray) (p a z : Int) (c : Bool) (k er : Int) (w : World) (hs : s.size ≤ 140737488351232) (hd : decS s = (n, p, a, z, c, k, er)) :
    Calls Try.prog 13 #[.string s] w fun e w' => e = .returned (.tuple #[.agg #[.string n, .int .i64 p, .int .i64 a, .int .i64 z, .bool c], .int .i64 k, .int .i64 er]) ∧ Below w.heap.size w w' := by
  have hmf : ∀ (fn : Fn) (first cap : Array Value) (w : World), (Instr.makeFunc fn first cap).run Try.prog w = .ok (.func fn first cap) w := fun _ _ _ _ => rfl
  have HU := Aside0.mk (untU_eq s hs)
  have HD := Aside0.mk hd
  clear hd
  obtain ⟨nm, m0, e0, hu0, hm0, hnm⟩ := untU_range s hs
  obtain ⟨v1, m1, b1, hf1, hm1, v1a, v1b⟩ := numF_range s m0 false hm0
  obtain ⟨v2, m2, b2, hf2, hm2, v2a, v2b⟩ := numF_range s m1 b1 hm1
  obtain ⟨v3, m3, b3, hf3, hm3, v3a, v3b⟩ := numF_range s m2 b2 hm2
  obtain ⟨v4, m4, b4, hf4, hm4, v4a, v4b⟩ := numF_range s m3 b3 hm3
  have HDD : Aside0 (decS s = if e0 ≠ 0 then (⟨#[]⟩, 0, 0, 0, false, 0, 4) else if (b4 || decide (1 < v4) || !rightF nm v1 v2 v3) = true then (⟨#[]⟩, 0, 0, 0, false, 0, 4) else (nm, v1, v2, v3, v4 == 1, (m4 : Int), 0)) := ⟨by
    unfold decS
    simp only [hu0, hf1, hf2, hf3, hf4]⟩
  rw [hu0] at HU
  have F1 := Aside0.mk hf1
  have F2 := Aside0.mk hf2
  have F3 := Aside0.mk hf3
  have F4 := Aside0.mk hf4
  clear hu0 hf1 hf2 hf3 hf4
  go_enter Try.func13, Try.ntmps13
  go_wp2_with fail
  refine (nums_Untext.calls 50 s _ _ _ _ HU.out).mono ?_
  rintro e w1 ⟨rfl, ⟨⟨n1, rfl⟩⟩⟩
  by_cases he : e0 = 0
  case neg =>
    have hb : (e0 != 0) = true := by rw [bne_iff_ne]; exact he
    have hdd := HDD.out
    rw [if_pos he] at hdd
    have HE := Aside0.mk (HD.out.symm.trans hdd)
    clear hdd he
    go_wp2_with fail
    exact bodyPost_ret (v := .tuple #[.agg #[.string ⟨#[]⟩, .int .i64 0, .int .i64 0, .int .i64 0, .bool false], .int .i64 0, .int .i64 4]) (by simp [results, Try.results13, go_sem]) rfl ⟨ret_dec rfl HE.out, by (with_reducible repeat (first | exact Below.refl _ _ | apply below_alloc | apply pw_below_drewN | (refine Below.setCell ?_ (by simp) _)))⟩
  have hb : (e0 != 0) = false := by rw [he]; rfl
  have hdd := HDD.out
  rw [if_neg (by simpa using he)] at hdd
  have HE := Aside0.mk (HD.out.symm.trans hdd)
  clear hdd he
  go_wp2_with fail
  have S0 := Aside0.mk (show ((((w.alloc (.cells #[.string s] 9)).alloc (.cells #[.string ⟨#[]⟩, .int .i64 0, .int .i64 0, .int .i64 0, .bool false] 23)).drewN n1).heap[w.heap.size]?) = some (.cells #[.string s] 9 (0, 0)) from (Below.heap_alloc (w.alloc (.cells #[.string s] 9)) _ _ (by simp)).trans (heap_alloc_new w _))
  have R0 := Aside0.mk (show ((((w.alloc (.cells #[.string s] 9)).alloc (.cells #[.string ⟨#[]⟩, .int .i64 0, .int .i64 0, .int .i64 0, .bool false] 23)).drewN n1).heap[w.heap.size + 1]?) = some (.cells #[.string ⟨#[]⟩, .int .i64 0, .int .i64 0, .int .i64 0, .bool false] 23) from by have := heap_alloc_new (w.alloc (.cells #[.string s] 9)) (.cells #[.string ⟨#[]⟩, .int .i64 0, .int .i64 0, .int .i64 0, .bool false] 23); simpa using this)
  have B0 := Aside0.mk (pw_below_drewN (below_alloc (below_alloc (Below.refl w.heap.size w) (.cells #[.string s] 9)) (.cells #[.string ⟨#[]⟩, .int .i64 0, .int .i64 0, .int .i64 0, .bool false] 23)) n1)
  have Z0 : ((((w.alloc (.cells #[.string s] 9)).alloc (.cells #[.string ⟨#[]⟩, .int .i64 0, .int .i64 0, .int .i64 0, .bool false] 23)).drewN n1).heap.size) = w.heap.size + 1 + 1 := by simp
  generalize ((w.alloc (.cells #[.string s] 9)).alloc (.cells #[.string ⟨#[]⟩, .int .i64 0, .int .i64 0, .int .i64 0, .bool false] 23)).drewN n1 = W0 at *
  have ZZ := Aside0.mk Z0
  have zlt : w.heap.size + 1 < W0.heap.size := by omega
  have A1 := Aside0.mk (show ((W0.alloc (.cells #[.int .i64 (m0 : Int)] 3)).alloc (.cells #[.bool false] 4)).heap[w.heap.size + 1 + 1]? = some (.cells #[.int .i64 (m0 : Int)] 3 (0, 0)) from by rw [← Z0]; exact (Below.heap_alloc _ _ _ (by simp)).trans (heap_alloc_new W0 _))
  have C1 := Aside0.mk (show ((W0.alloc (.cells #[.int .i64 (m0 : Int)] 3)).alloc (.cells #[.bool false] 4)).heap[w.heap.size + 1 + 1 + 1]? = some (.cells #[.bool false] 4 (0, 0)) from by have := heap_alloc_new (W0.alloc (.cells #[.int .i64 (m0 : Int)] 3)) (.cells #[.bool false] 4); rw [World.size_alloc, Z0] at this; exact this)
  have S1 := Aside0.mk (show ((W0.alloc (.cells #[.int .i64 (m0 : Int)] 3)).alloc (.cells #[.bool false] 4)).heap[w.heap.size]? = some (.cells #[.string s] 9 (0, 0)) from (Below.heap_alloc _ _ _ (by simp; omega)).trans ((Below.heap_alloc _ _ _ (by omega)).trans S0.out))
  have B1 := Aside0.mk (below_alloc (below_alloc (Below.refl W0.heap.size W0) (.cells #[.int .i64 (m0 : Int)] 3)) (.cells #[.bool false] 4))
  have BB := B1.out
  rw [Z0] at BB
  have B2 := Aside0.mk BB
  clear Z0 BB B1
  refine (number_calls' (w.heap.size + 1 + 1) W0 _ w.heap.size (w.heap.size + 1 + 1) (w.heap.size + 1 + 1 + 1) s m0 false v1 m1 b1 F1.out S1.out A1.out C1.out B2.out (by omega) (by omega) hm0 hs).mono ?_
  rintro e w2 ⟨rfl, q1, q2, q3, q4, q5, q6⟩
  have S2 := Aside0.mk q1; have A2 := Aside0.mk q2; have C2 := Aside0.mk q3; have B3 := Aside0.mk q5
  clear q1 q2 q3 q4 q5 q6
  go_wp2_with fail
  refine (number_calls' (w.heap.size + 1 + 1) W0 _ w.heap.size (w.heap.size + 1 + 1) (w.heap.size + 1 + 1 + 1) s m1 b1 v2 m2 b2 F2.out S2.out A2.out C2.out B3.out (by omega) (by omega) hm1 hs).mono ?_
  rintro e w3 ⟨rfl, q1, q2, q3, q4, q5, q6⟩
  have S3 := Aside0.mk q1; have A3 := Aside0.mk q2; have C3 := Aside0.mk q3; have B4 := Aside0.mk q5
  clear q1 q2 q3 q4 q5 q6
  go_wp2_with fail
  refine (number_calls' (w.heap.size + 1 + 1) W0 _ w.heap.size (w.heap.size + 1 + 1) (w.heap.size + 1 + 1 + 1) s m2 b2 v3 m3 b3 F3.out S3.out A3.out C3.out B4.out (by omega) (by omega) hm2 hs).mono ?_
  rintro e w4 ⟨rfl, q1, q2, q3, q4, q5, q6⟩
  have S4 := Aside0.mk q1; have A4 := Aside0.mk q2; have C4 := Aside0.mk q3; have B5 := Aside0.mk q5
  clear q1 q2 q3 q4 q5 q6
  go_wp2_with fail
  have zl4 : w.heap.size + 1 + 1 ≤ w4.heap.size := by have := B5.out.size; rw [ZZ.out] at this; exact this
  have hlt4 : w.heap.size + 1 + 1 + 1 < w4.heap.size := blk_lt C4.out
  have S5 := Aside0.mk ((Below.heap_alloc w4 (.cells #[.string nm, .int .i64 v1, .int .i64 v2, .int .i64 v3, .bool false] 23) _ (by omega)).trans S4.out)
  have A5 := Aside0.mk ((Below.heap_alloc w4 (.cells #[.string nm, .int .i64 v1, .int .i64 v2, .int .i64 v3, .bool false] 23) _ (by omega)).trans A4.out)
  have C5 := Aside0.mk ((Below.heap_alloc w4 (.cells #[.string nm, .int .i64 v1, .int .i64 v2, .int .i64 v3, .bool false] 23) _ (by omega)).trans C4.out)
  have B6 := Aside0.mk (B5.out.alloc zl4 (.cells #[.string nm, .int .i64 v1, .int .i64 v2, .int .i64 v3, .bool false] 23))
  have O5 := Aside0.mk (heap_alloc_new w4 (.cells #[.string nm, .int .i64 v1, .int .i64 v2, .int .i64 v3, .bool false] 23))
  generalize w4.alloc (.cells #[.string nm, .int .i64 v1, .int .i64 v2, .int .i64 v3, .bool false] 23) = w5 at *
  have hg5 : w.heap.size + 1 + 1 + 1 < w4.heap.size := hlt4
  generalize w4.heap.size = g5 at *
  refine (number_calls' (w.heap.size + 1 + 1) W0 _ w.heap.size (w.heap.size + 1 + 1) (w.heap.size + 1 + 1 + 1) s m3 b3 v4 m4 b4 F4.out S5.out A5.out C5.out B6.out (by omega) (by omega) hm3 hs).mono ?_
  rintro e w6 ⟨rfl, q1, q2, q3, q4, q5, q6⟩
  have A6 := Aside0.mk q2; have C6 := Aside0.mk q3; have B7 := Aside0.mk q5
  have O6 := Aside0.mk ((q6 g5 (by omega) (by omega)).trans O5.out)
  have R6 := Aside0.mk ((q5.block (w.heap.size + 1) (by omega)).trans R0.out)
  clear q1 q2 q3 q4 q5 q6
  have o4 : w6.cell? ⟨g5, 4, none⟩ = some (.bool false) := (blk_cell O6.out 4).trans rfl
  have of : w6.frozen? ⟨g5, 4, none⟩ = false := blk_frozen O6.out 4
  go_upto_region 9 with fail
  have O7 := Aside0.mk (blk_set O6.out 4 (.bool (v4 == 1)))
  have R7 := Aside0.mk (blk_far R6.out (p := ⟨g5, 4, none⟩) (by simp; omega) (.bool (v4 == 1)))
  have A7 := Aside0.mk (blk_far A6.out (p := ⟨g5, 4, none⟩) (by simp; omega) (.bool (v4 == 1)))
  have C7 := Aside0.mk (blk_far C6.out (p := ⟨g5, 4, none⟩) (by simp; omega) (.bool (v4 == 1)))
  have BW := Aside0.mk (below_then B0.out (by rw [ZZ.out]; omega) ((show Below W0.heap.size W0 w6 from by rw [ZZ.out]; exact B7.out).setCell (p := ⟨g5, 4, none⟩) (by rw [ZZ.out]; simp; omega) (.bool (v4 == 1))))
  clear o4 of
  generalize w6.setCell ⟨g5, 4, none⟩ (.bool (v4 == 1)) = w7 at *
  have o0 : w7.cell? ⟨g5, 0, none⟩ = some (.string nm) := (blk_cell O7.out 0).trans rfl
  have o1 : w7.cell? ⟨g5, 1, none⟩ = some (.int .i64 v1) := (blk_cell O7.out 1).trans rfl
  have o2 : w7.cell? ⟨g5, 2, none⟩ = some (.int .i64 v2) := (blk_cell O7.out 2).trans rfl
  have o3 : w7.cell? ⟨g5, 3, none⟩ = some (.int .i64 v3) := (blk_cell O7.out 3).trans rfl
  have o4 : w7.cell? ⟨g5, 4, none⟩ = some (.bool (v4 == 1)) := (blk_cell O7.out 4).trans rfl
  have rc0 : w7.cell? ⟨w.heap.size + 1, 0, none⟩ = some (.string ⟨#[]⟩) := (blk_cell R7.out 0).trans rfl
  have rc1 : w7.cell? ⟨w.heap.size + 1, 1, none⟩ = some (.int .i64 0) := (blk_cell R7.out 1).trans rfl
  have rc2 : w7.cell? ⟨w.heap.size + 1, 2, none⟩ = some (.int .i64 0) := (blk_cell R7.out 2).trans rfl
  have rc3 : w7.cell? ⟨w.heap.size + 1, 3, none⟩ = some (.int .i64 0) := (blk_cell R7.out 3).trans rfl
  have rc4 : w7.cell? ⟨w.heap.size + 1, 4, none⟩ = some (.bool false) := (blk_cell R7.out 4).trans rfl
  have rf0 : w7.frozen? ⟨w.heap.size + 1, 0, none⟩ = false := blk_frozen R7.out 0
  have rf1 : w7.frozen? ⟨w.heap.size + 1, 1, none⟩ = false := blk_frozen R7.out 1
  have rf2 : w7.frozen? ⟨w.heap.size + 1, 2, none⟩ = false := blk_frozen R7.out 2
  have rf3 : w7.frozen? ⟨w.heap.size + 1, 3, none⟩ = false := blk_frozen R7.out 3
  have rf4 : w7.frozen? ⟨w.heap.size + 1, 4, none⟩ = false := blk_frozen R7.out 4
  have ac : w7.cell? ⟨w.heap.size + 1 + 1, 0, none⟩ = some (.int .i64 m4) := (blk_cell A7.out 0).trans rfl
  have cc : w7.cell? ⟨w.heap.size + 1 + 1 + 1, 0, none⟩ = some (.bool b4) := (blk_cell C7.out 0).trans rfl
  have hcase : b4 = true ∨ (b4 = false ∧ 1 < v4) ∨ (b4 = false ∧ v4 ≤ 1 ∧ rightF nm v1 v2 v3 = false) ∨ (b4 = false ∧ v4 ≤ 1 ∧ rightF nm v1 v2 v3 = true) := by
    cases b4
    · rcases Int.lt_or_le 1 v4 with h | h
      · exact .inr (.inl ⟨rfl, h⟩)
      · cases hr : rightF nm v1 v2 v3
        · exact .inr (.inr (.inl ⟨rfl, h, rfl⟩))
        · exact .inr (.inr (.inr ⟨rfl, h, rfl⟩))
    · exact .inl rfl
  rcases hcase with rfl | ⟨rfl, hv⟩ | ⟨rfl, hv, hr⟩ | ⟨rfl, hv, hr⟩
  · have he := HE.out
    rw [if_pos (by simp)] at he
    have HEE := Aside0.mk he
    clear he
    go_wp2_with fail
    exact bodyPost_ret (v := .tuple #[.agg #[.string ⟨#[]⟩, .int .i64 0, .int .i64 0, .int .i64 0, .bool false], .int .i64 0, .int .i64 4]) (by simp [results, Try.results13, go_sem, rc0, rc1, rc2, rc3, rc4]) rfl ⟨ret_dec rfl HEE.out, by (with_reducible repeat (first | exact BW.out | apply below_alloc | apply pw_below_drewN | (refine Below.setCell ?_ (by simp) _)))⟩
  · have he := HE.out
    rw [if_pos (by simp [hv])] at he
    have HEE := Aside0.mk he
    clear he
    go_wp2_with fail
    exact bodyPost_ret (v := .tuple #[.agg #[.string ⟨#[]⟩, .int .i64 0, .int .i64 0, .int .i64 0, .bool false], .int .i64 0, .int .i64 4]) (by simp [results, Try.results13, go_sem, rc0, rc1, rc2, rc3, rc4]) rfl ⟨ret_dec rfl HEE.out, by (with_reducible repeat (first | exact BW.out | apply below_alloc | apply pw_below_drewN | (refine Below.setCell ?_ (by simp) _)))⟩
  · have he := HE.out
    rw [if_pos (by simp [hr])] at he
    have HEE := Aside0.mk he
    have HR := Aside0.mk hr
    clear he hr
    go_wp2_with fail
    refine (topic_Right.calls 20 nm v1 v2 v3 (v4 == 1) false _ (by rw [right_eq _ _ _ _ _ (by omega) 20 (by omega), HR.out])).mono ?_
    rintro e w8 ⟨rfl, hb⟩
    replace rc0 := (hb.cell (World.block_lt_of_cell? w7 _ rc0)).trans rc0
    replace rf0 := (hb.frozen (p := ⟨w.heap.size + 1, 0, none⟩) (blk_lt R7.out)).trans rf0
    replace rc1 := (hb.cell (World.block_lt_of_cell? w7 _ rc1)).trans rc1
    replace rf1 := (hb.frozen (p := ⟨w.heap.size + 1, 1, none⟩) (blk_lt R7.out)).trans rf1
    replace rc2 := (hb.cell (World.block_lt_of_cell? w7 _ rc2)).trans rc2
    replace rf2 := (hb.frozen (p := ⟨w.heap.size + 1, 2, none⟩) (blk_lt R7.out)).trans rf2
    replace rc3 := (hb.cell (World.block_lt_of_cell? w7 _ rc3)).trans rc3
    replace rf3 := (hb.frozen (p := ⟨w.heap.size + 1, 3, none⟩) (blk_lt R7.out)).trans rf3
    replace rc4 := (hb.cell (World.block_lt_of_cell? w7 _ rc4)).trans rc4
    replace rf4 := (hb.frozen (p := ⟨w.heap.size + 1, 4, none⟩) (blk_lt R7.out)).trans rf4
    replace o0 := (hb.cell (World.block_lt_of_cell? w7 _ o0)).trans o0
    replace o1 := (hb.cell (World.block_lt_of_cell? w7 _ o1)).trans o1
    replace o2 := (hb.cell (World.block_lt_of_cell? w7 _ o2)).trans o2
    replace o3 := (hb.cell (World.block_lt_of_cell? w7 _ o3)).trans o3
    replace o4 := (hb.cell (World.block_lt_of_cell? w7 _ o4)).trans o4
    replace ac := (hb.cell (World.block_lt_of_cell? w7 _ ac)).trans ac
    have BW8 := Aside0.mk (below_step BW.out hb)
    clear cc hb
    go_wp2_with fail
    exact bodyPost_ret (v := .tuple #[.agg #[.string ⟨#[]⟩, .int .i64 0, .int .i64 0, .int .i64 0, .bool false], .int .i64 0, .int .i64 4]) (by simp [results, Try.results13, go_sem, rc0, rc1, rc2, rc3, rc4]) rfl ⟨ret_dec rfl HEE.out, by (with_reducible repeat (first | exact BW8.out | apply below_alloc | apply pw_below_drewN | (refine Below.setCell ?_ (by simp) _)))⟩
  · have he := HE.out
    rw [if_neg (by simp [hr]; omega)] at he
    have HEE := Aside0.mk he
    have HR := Aside0.mk hr
    clear he hr
    go_wp2_with fail
    refine (topic_Right.calls 20 nm v1 v2 v3 (v4 == 1) true _ (by rw [right_eq _ _ _ _ _ (by omega) 20 (by omega), HR.out])).mono ?_
    rintro e w8 ⟨rfl, hb⟩
    replace rc0 := (hb.cell (World.block_lt_of_cell? w7 _ rc0)).trans rc0
    replace rf0 := (hb.frozen (p := ⟨w.heap.size + 1, 0, none⟩) (blk_lt R7.out)).trans rf0
    replace rc1 := (hb.cell (World.block_lt_of_cell? w7 _ rc1)).trans rc1
    replace rf1 := (hb.frozen (p := ⟨w.heap.size + 1, 1, none⟩) (blk_lt R7.out)).trans rf1
    replace rc2 := (hb.cell (World.block_lt_of_cell? w7 _ rc2)).trans rc2
    replace rf2 := (hb.frozen (p := ⟨w.heap.size + 1, 2, none⟩) (blk_lt R7.out)).trans rf2
    replace rc3 := (hb.cell (World.block_lt_of_cell? w7 _ rc3)).trans rc3
    replace rf3 := (hb.frozen (p := ⟨w.heap.size + 1, 3, none⟩) (blk_lt R7.out)).trans rf3
    replace rc4 := (hb.cell (World.block_lt_of_cell? w7 _ rc4)).trans rc4
    replace rf4 := (hb.frozen (p := ⟨w.heap.size + 1, 4, none⟩) (blk_lt R7.out)).trans rf4
    replace o0 := (hb.cell (World.block_lt_of_cell? w7 _ o0)).trans o0
    replace o1 := (hb.cell (World.block_lt_of_cell? w7 _ o1)).trans o1
    replace o2 := (hb.cell (World.block_lt_of_cell? w7 _ o2)).trans o2
    replace o3 := (hb.cell (World.block_lt_of_cell? w7 _ o3)).trans o3
    replace o4 := (hb.cell (World.block_lt_of_cell? w7 _ o4)).trans o4
    replace ac := (hb.cell (World.block_lt_of_cell? w7 _ ac)).trans ac
    have BW8 := Aside0.mk (below_step BW.out hb)
    clear cc hb
    go_wp2_with fail
    go_region
    go_wp2_with fail
    exact bodyPost_ret (v := .tuple #[.agg #[.string nm, .int .i64 v1, .int .i64 v2, .int .i64 v3, .bool (v4 == 1)], .int .i64 m4, .int .i64 0]) (by simp [results, Try.results13, go_sem, rc0, rc1, rc2, rc3, rc4]) rfl ⟨ret_dec rfl HEE.out, by (with_reducible repeat (first | exact BW8.out | apply below_drew | apply below_alloc | apply pw_below_drewN | (refine Below.setCell ?_ (by simp) _)))⟩
end Go.Proofs.Ytkkacbjopkaolaa.HandTopic
