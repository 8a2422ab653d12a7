import Derived.Test.YtkkacbjopkaolaaHandTopic2
namespace Go.Proofs.Ytkkacbjopkaolaa.HandTopic3
open Go.RowKit Go.Proofs.YtkkacbjopkaolaaW.PrintWords Go.Proofs.YtkkacbjopkaolaaW.PrintLast Go.Proofs.YtkkacbjopkaolaaW.PrintMore Go.Proofs.Ytkkacbjopkaolaa.Hand Go.Proofs.Ytkkacbjopkaolaa.PTopicA Go.Proofs.Ytkkacbjopkaolaa.PureNums Go.Proofs.Ytkkacbjopkaolaa.PureTopic Go.Proofs.Ytkkacbjopkaolaa.HandTopic
set_option linter.unusedVariables false
set_option linter.unusedSimpArgs false

/-- topic.Decode, in the print's form -/
theorem topic_Decode.calls (a0 : ByteArray) (r1 : ByteArray) (r2 r3 r4 : Int) (r5 : Bool) (r6 r7 : Int) (w : World) (h : topic_Decode.f a0 = some (r1, r2, r3, r4, r5, r6, r7)) :
    Calls Try.prog 13 #[.string a0] w fun e w' => e = .returned (.tuple #[.agg #[.string r1, .int .i64 r2, .int .i64 r3, .int .i64 r4, .bool r5], .int .i64 r6, .int .i64 r7]) ∧ Below w.heap.size w w' := by
  unfold topic_Decode.f at h
  by_cases hs : a0.size ≤ 140737488351232
  case neg => rw [if_neg hs] at h; exact absurd h (by simp)
  rw [if_pos hs] at h
  exact dec_calls a0 _ _ _ _ _ _ _ w hs (Option.some.inj h)

/-- the reference's rounds -/
def chR (s : ByteArray) (a : Nat) : Option (Int × Nat) :=
  let u := unU (s.extract a s.size)
  if u.2.2 ≠ 0 ∨ u.1 > 1099511627776 then none else some (u.1, a + u.2.1.toNat)
def loopR (s : ByteArray) : Nat → Nat → List Int → Option (List Int × Nat)
  | 0, a, l => some (l, a)
  | k + 1, a, l => match chR s a with
    | none => none
    | some (v, a') => loopR s k a' (l ++ [v])
abbrev Seven := ByteArray × Int × Int × Int × Bool × Int × Bool
def zeroR : Seven := (⟨#[]⟩, 0, 0, 0, false, 0, false)
def endR (n : ByteArray) : Option (List Int × Nat) → Seven
  | some ([l0, l1, l2, l3], a) => if (decide (1 < l3) || !rightF n l0 l1 l2) = true then zeroR else (n, l0, l1, l2, l3 == 1, (a : Int), true)
  | _ => zeroR
def decR (s : ByteArray) : Seven :=
  let t := untU s
  if t.2.2 ≠ 0 then zeroR else endR t.1 (loopR s 4 t.2.1.toNat [])
def weighlockref22_Decode.f (s : ByteArray) : Option Seven := if s.size ≤ 140737488351232 then some (decR s) else none

def padI (l : List Int) (m : Nat) : Array Value := ((l ++ List.replicate (m - l.length) 0).map (Value.int .i64)).toArray
theorem padI_set (l : List Int) (m : Nat) (x : Int) (h : l.length < m) : (padI l m).setIfInBounds l.length (.int .i64 x) = padI (l ++ [x]) m := by
  unfold padI
  apply Array.toList_inj.1
  have e : m - l.length = (m - (l.length + 1)) + 1 := by omega
  simp only [List.length_append, List.length_cons, List.length_nil, Nat.zero_add]
  rw [e, List.replicate_succ]
  simp [List.setIfInBounds_toArray, List.set_append_right]
theorem padI_at (l : List Int) (m : Nat) (h : l.length < m) : (padI l m)[l.length]? = some (.int .i64 0) := by
  unfold padI
  have e : m - l.length = (m - (l.length + 1)) + 1 := by omega
  rw [List.getElem?_toArray, List.getElem?_map, List.getElem?_append_right (Nat.le_refl _), e, List.replicate_succ]
  simp
theorem unU_range (s : ByteArray) (a : Nat) (ha : a ≤ s.size) : ∃ (v : Int) (n : Nat) (e : Int), unU (s.extract a s.size) = (v, (n : Int), e) ∧ 0 ≤ v ∧ v < 18446744073709551616 ∧ a + n ≤ s.size := by
  obtain ⟨n, hr⟩ := run_is (s.extract a s.size)
  have := unch_range _ n hr
  have e : unU (s.extract a s.size) = unch (s.extract a s.size) n := by unfold unU; rw [nums_spec _ n hr]; rfl
  have hz : (s.extract a s.size).size = s.size - a := by rw [ByteArray.size_extract]; omega
  rw [hz] at this
  refine ⟨(unch (s.extract a s.size) n).1, (unch (s.extract a s.size) n).2.1.toNat, (unch (s.extract a s.size) n).2.2, ?_, this.1, this.2.1, by omega⟩
  rw [e, Int.toNat_of_nonneg this.2.2.1]
theorem refU_eq (s : ByteArray) (hs : s.size ≤ 140737488351232) : weighlockref01_Unchain.f 40 s = some (unU s) := by
  obtain ⟨n, h⟩ := run_is s
  rw [ref_spec s n h hs]
  unfold unU
  rw [nums_spec s n h]
  rfl
theorem refT_eq (s : ByteArray) (hs : s.size ≤ 140737488351232) : weighlockref01_Untext.f 50 s = some (untU s) := by
  obtain ⟨n, h⟩ := run_is s
  rw [ref_untext s n h hs 50 (by omega)]
  unfold untU
  rw [untext_eq s n h hs 50 (by omega)]
  rfl
theorem ret_R {e : Ending} {n n' : ByteArray} {p p' a a' z z' k k' : Int} {c c' o o' : Bool} (h : e = .returned (.agg #[.string n, .int .i64 p, .int .i64 a, .int .i64 z, .bool c, .int .i64 k, .bool o])) (he : ((n', p', a', z', c', k', o') : Seven) = (n, p, a, z, c, k, o)) : e = .returned (.agg #[.string n', .int .i64 p', .int .i64 a', .int .i64 z', .bool c', .int .i64 k', .bool o']) := by
  simp only [Prod.mk.injEq] at he
  obtain ⟨rfl, rfl, rfl, rfl, rfl, rfl, rfl⟩ := he
  exact h
theorem len4 (l : List Int) (h : l.length = 4) : ∃ a b c d, l = [a, b, c, d] := by
  match l, h with
  | [a, b, c, d], _ => exact ⟨a, b, c, d, rfl⟩
set_option maxHeartbeats 8000000 in
theorem decR_calls (s : ByteArray) (r1 : ByteArray) (r2 r3 r4 : Int) (r5 : Bool) (r6 : Int) (r7 : Bool) (w : World) (hs : s.size ≤ 140737488351232) (hd : decR s = (r1, r2, r3, r4, r5, r6, r7)) :
    Calls Try.prog 15 #[.string s] w fun e w' => e = .returned (.agg #[.string r1, .int .i64 r2, .int .i64 r3, .int .i64 r4, .bool r5, .int .i64 r6, .bool r7]) ∧ Below w.heap.size w w' := by
  have HU := Aside0.mk (refT_eq s hs)
  obtain ⟨nm, m0, e0, hu0, hm0, hnm⟩ := untU_range s hs
  have HD : Aside0 ((if e0 ≠ 0 then zeroR else endR nm (loopR s 4 m0 [])) = (r1, r2, r3, r4, r5, r6, r7)) := ⟨by rw [← hd]; unfold decR; simp only [hu0, Int.toNat_natCast]⟩
  rw [hu0] at HU
  clear hd hu0
  go_enter Try.func15, Try.ntmps15
  go_wp2_with fail
  refine (weighlockref01_Untext.calls 50 s _ _ _ _ HU.out).mono ?_
  rintro e w1 ⟨rfl, hb⟩
  have BW := Aside0.mk (below_step (below_alloc (Below.refl w.heap.size w) (.cells #[.string ⟨#[]⟩, .int .i64 0, .int .i64 0, .int .i64 0, .bool false, .int .i64 0, .bool false] 37)) hb)
  have R0 := Aside0.mk ((hb.block _ (by rw [World.size_alloc]; omega)).trans (heap_alloc_new w (.cells #[.string ⟨#[]⟩, .int .i64 0, .int .i64 0, .int .i64 0, .bool false, .int .i64 0, .bool false] 37)))
  have L1 : w.heap.size < w1.heap.size := blk_lt R0.out
  clear hb
  have R1 := Aside0.mk (blk_alloc R0.out (.cells #[.string nm, .int .i64 m0, .int .i64 e0] 54))
  have T1 := Aside0.mk (blk_new w1 (.cells #[.string nm, .int .i64 m0, .int .i64 e0] 54))
  have B1 := Aside0.mk (below_alloc BW.out (.cells #[.string nm, .int .i64 m0, .int .i64 e0] 54))
  have rc0 : w1.cell? ⟨w.heap.size, 0, none⟩ = some (.string ⟨#[]⟩) := (blk_cell R0.out 0).trans rfl
  have rf0 : w1.frozen? ⟨w.heap.size, 0, none⟩ = false := blk_frozen R0.out 0
  have rc1 : w1.cell? ⟨w.heap.size, 1, none⟩ = some (.int .i64 0) := (blk_cell R0.out 1).trans rfl
  have rf1 : w1.frozen? ⟨w.heap.size, 1, none⟩ = false := blk_frozen R0.out 1
  have rc2 : w1.cell? ⟨w.heap.size, 2, none⟩ = some (.int .i64 0) := (blk_cell R0.out 2).trans rfl
  have rf2 : w1.frozen? ⟨w.heap.size, 2, none⟩ = false := blk_frozen R0.out 2
  have rc3 : w1.cell? ⟨w.heap.size, 3, none⟩ = some (.int .i64 0) := (blk_cell R0.out 3).trans rfl
  have rf3 : w1.frozen? ⟨w.heap.size, 3, none⟩ = false := blk_frozen R0.out 3
  have rc4 : w1.cell? ⟨w.heap.size, 4, none⟩ = some (.bool false) := (blk_cell R0.out 4).trans rfl
  have rf4 : w1.frozen? ⟨w.heap.size, 4, none⟩ = false := blk_frozen R0.out 4
  have rc5 : w1.cell? ⟨w.heap.size, 5, none⟩ = some (.int .i64 0) := (blk_cell R0.out 5).trans rfl
  have rf5 : w1.frozen? ⟨w.heap.size, 5, none⟩ = false := blk_frozen R0.out 5
  have rc6 : w1.cell? ⟨w.heap.size, 6, none⟩ = some (.bool false) := (blk_cell R0.out 6).trans rfl
  have rf6 : w1.frozen? ⟨w.heap.size, 6, none⟩ = false := blk_frozen R0.out 6
  by_cases he : e0 = 0
  case neg =>
    have hb : (e0 != 0) = true := by rw [bne_iff_ne]; exact he
    have hdd := HD.out
    rw [if_pos he] at hdd
    have HE := Aside0.mk hdd
    clear hdd he
    go_wp2_with fail
    exact bodyPost_ret (v := .agg #[.string ⟨#[]⟩, .int .i64 0, .int .i64 0, .int .i64 0, .bool false, .int .i64 0, .bool false]) (by simp [results, Try.results15, go_sem, rc0, rc1, rc2, rc3, rc4, rc5, rc6, World.cell?_alloc_lt, L1]) rfl ⟨ret_R rfl HE.out.symm, by (with_reducible repeat (first | exact BW.out | apply below_alloc | apply pw_below_drewN | (refine Below.setCell ?_ (by simp) _)))⟩
  have hb : (e0 != 0) = false := by rw [he]; rfl
  have hdd := HD.out
  rw [if_neg (by simpa using he)] at hdd
  have HE := Aside0.mk hdd
  clear hdd he
  go_wp2_with fail
  have RA := Aside0.mk (blk_alloc R1.out (.cells #[.int .i64 0, .int .i64 0, .int .i64 0, .int .i64 0] 56))
  have TA := Aside0.mk (blk_alloc T1.out (.cells #[.int .i64 0, .int .i64 0, .int .i64 0, .int .i64 0] 56))
  have LA : Aside0 (((w1.alloc (.cells #[.string nm, .int .i64 m0, .int .i64 e0] 54)).alloc (.cells #[.int .i64 0, .int .i64 0, .int .i64 0, .int .i64 0] 56)).heap[w1.heap.size + 1]? = some (.cells (padI [] 4) 56 (0, 0))) := ⟨by have := blk_new (w1.alloc (.cells #[.string nm, .int .i64 m0, .int .i64 e0] 54)) (.cells #[.int .i64 0, .int .i64 0, .int .i64 0, .int .i64 0] 56); rw [World.size_alloc] at this; exact this⟩
  have BA := Aside0.mk (below_alloc B1.out (.cells #[.int .i64 0, .int .i64 0, .int .i64 0, .int .i64 0] 56))
  clear rc0 rc1 rc2 rc3 rc4 rc5 rc6 rf0 rf1 rf2 rf3 rf4 rf5 rf6 R0 R1 T1 B1 BW
  generalize (w1.alloc (.cells #[.string nm, .int .i64 m0, .int .i64 e0] 54)).alloc (.cells #[.int .i64 0, .int .i64 0, .int .i64 0, .int .i64 0] 56) = W0 at *
  generalize w1.heap.size = g1 at *
  clear hb
  go_loopw [4, 18] (fun x i wr => ∃ (m : Nat) (l : List Int), x = .int .i64 m ∧ i = .int .i64 (l.length : Int) ∧ l.length ≤ 4 ∧ m ≤ s.size ∧ Aside0 (endR nm (loopR s (4 - l.length) m l) = (r1, r2, r3, r4, r5, r6, r7)) ∧ Aside0 (∀ v, v ∈ l → 0 ≤ v ∧ v ≤ 1099511627776) ∧ Aside0 (wr.heap[w.heap.size]? = some (.cells #[.string ⟨#[]⟩, .int .i64 0, .int .i64 0, .int .i64 0, .bool false, .int .i64 0, .bool false] 37 (0, 0))) ∧ Aside0 (wr.heap[g1]? = some (.cells #[.string nm, .int .i64 m0, .int .i64 e0] 54 (0, 0))) ∧ Aside0 (wr.heap[g1 + 1]? = some (.cells (padI l 4) 56 (0, 0))) ∧ Aside0 (Below w.heap.size w wr)) (fun _ i _ => 4 - (intOf i).toNat)
  case atStart => exact ⟨m0, [], rfl, rfl, Nat.zero_le _, hm0, HE, ⟨fun _ h => absurd h (by simp)⟩, RA, TA, LA, BA⟩
  case round =>
    clear HE RA TA LA BA
    obtain ⟨m, l, rfl, rfl, hl, hm, HE, HV, RA, TA, LA, BA⟩ := hrel
    have L1 : w.heap.size < wr.heap.size := blk_lt RA.out
    have L2 : g1 + 1 < wr.heap.size := blk_lt LA.out
    by_cases hx : (l.length : Int) < 4
    · obtain ⟨v, n, e, hun, hv0, hv1, hn⟩ := unU_range s m hm
      have HU2 := Aside0.mk (refU_eq (s.extract m s.size) (by rw [ByteArray.size_extract]; omega))
      rw [hun] at HU2
      have HUN := Aside0.mk hun
      clear hun
      go_wp2_with fail
      refine (weighlockref01_Unchain.calls 40 _ _ _ _ _ HU2.out).mono ?_
      rintro e w2 ⟨rfl, hb⟩
      have L3 : w.heap.size < w2.heap.size := blk_lt (blk_below RA.out hb)
      have BB := Aside0.mk (below_step BA.out hb)
      have RB := Aside0.mk (blk_below RA.out hb)
      have TB := Aside0.mk (blk_below TA.out hb)
      have LB := Aside0.mk (blk_below LA.out hb)
      have L4 : g1 + 1 < w2.heap.size := blk_lt LB.out
      have hlc : w2.cell? ⟨g1 + 1, l.length, none⟩ = some (.int .i64 0) := (blk_cell LB.out _).trans (padI_at l 4 (by omega))
      have hlf : w2.frozen? ⟨g1 + 1, l.length, none⟩ = false := blk_frozen LB.out _
      clear hb
      have rc0 : w2.cell? ⟨w.heap.size, 0, none⟩ = some (.string ⟨#[]⟩) := (blk_cell RB.out 0).trans rfl
      have rf0 : w2.frozen? ⟨w.heap.size, 0, none⟩ = false := blk_frozen RB.out 0
      have rc1 : w2.cell? ⟨w.heap.size, 1, none⟩ = some (.int .i64 0) := (blk_cell RB.out 1).trans rfl
      have rf1 : w2.frozen? ⟨w.heap.size, 1, none⟩ = false := blk_frozen RB.out 1
      have rc2 : w2.cell? ⟨w.heap.size, 2, none⟩ = some (.int .i64 0) := (blk_cell RB.out 2).trans rfl
      have rf2 : w2.frozen? ⟨w.heap.size, 2, none⟩ = false := blk_frozen RB.out 2
      have rc3 : w2.cell? ⟨w.heap.size, 3, none⟩ = some (.int .i64 0) := (blk_cell RB.out 3).trans rfl
      have rf3 : w2.frozen? ⟨w.heap.size, 3, none⟩ = false := blk_frozen RB.out 3
      have rc4 : w2.cell? ⟨w.heap.size, 4, none⟩ = some (.bool false) := (blk_cell RB.out 4).trans rfl
      have rf4 : w2.frozen? ⟨w.heap.size, 4, none⟩ = false := blk_frozen RB.out 4
      have rc5 : w2.cell? ⟨w.heap.size, 5, none⟩ = some (.int .i64 0) := (blk_cell RB.out 5).trans rfl
      have rf5 : w2.frozen? ⟨w.heap.size, 5, none⟩ = false := blk_frozen RB.out 5
      have rc6 : w2.cell? ⟨w.heap.size, 6, none⟩ = some (.bool false) := (blk_cell RB.out 6).trans rfl
      have rf6 : w2.frozen? ⟨w.heap.size, 6, none⟩ = false := blk_frozen RB.out 6
      by_cases he : e = 0
      case neg =>
        have hbe : (e != 0) = true := by rw [bne_iff_ne]; exact he
        have HEE : Aside0 (zeroR = (r1, r2, r3, r4, r5, r6, r7)) := ⟨by
          have := HE.out
          rw [show 4 - l.length = (4 - (l.length + 1)) + 1 by omega] at this
          unfold loopR chR at this
          rw [HUN.out] at this
          simp only [if_pos (show e ≠ 0 ∨ v > 1099511627776 from .inl he)] at this
          exact this⟩
        clear he
        go_wp2_with fail
        exact bodyPost_ret (v := .agg #[.string ⟨#[]⟩, .int .i64 0, .int .i64 0, .int .i64 0, .bool false, .int .i64 0, .bool false]) (by simp [results, Try.results15, go_sem, rc0, rc1, rc2, rc3, rc4, rc5, rc6, World.cell?_alloc_lt, L1, L3]) rfl ⟨ret_R rfl HEE.out.symm, by (with_reducible repeat (first | exact BB.out | apply below_alloc | apply pw_below_drewN | (refine Below.setCell ?_ (by simp) _)))⟩
      have hbe : (e != 0) = false := by rw [he]; rfl
      by_cases hv : v ≤ 1099511627776
      case neg =>
        have HEE : Aside0 (zeroR = (r1, r2, r3, r4, r5, r6, r7)) := ⟨by
          have := HE.out
          rw [show 4 - l.length = (4 - (l.length + 1)) + 1 by omega] at this
          unfold loopR chR at this
          rw [HUN.out] at this
          simp only [if_pos (show e ≠ 0 ∨ v > 1099511627776 from .inr (by omega))] at this
          exact this⟩
        clear he
        go_wp2_with fail
        exact bodyPost_ret (v := .agg #[.string ⟨#[]⟩, .int .i64 0, .int .i64 0, .int .i64 0, .bool false, .int .i64 0, .bool false]) (by simp [results, Try.results15, go_sem, rc0, rc1, rc2, rc3, rc4, rc5, rc6, World.cell?_alloc_lt, L1, L3]) rfl ⟨ret_R rfl HEE.out.symm, by (with_reducible repeat (first | exact BB.out | apply below_alloc | apply pw_below_drewN | (refine Below.setCell ?_ (by simp) _)))⟩
      have HEE : Aside0 (endR nm (loopR s (4 - (l.length + 1)) (m + n) (l ++ [v])) = (r1, r2, r3, r4, r5, r6, r7)) := ⟨by
          have := HE.out
          rw [show 4 - l.length = (4 - (l.length + 1)) + 1 by omega] at this
          unfold loopR chR at this
          rw [HUN.out] at this
          simp only [if_neg (show ¬ (e ≠ 0 ∨ v > 1099511627776) by omega), Int.toNat_natCast] at this
          exact this⟩
      clear he rc0 rc1 rc2 rc3 rc4 rc5 rc6 rf0 rf1 rf2 rf3 rf4 rf5 rf6
      go_wp2_with fail
      refine ⟨⟨m + n, l ++ [v], by simp, by simp, by simp; omega, by omega, ⟨?_⟩, ⟨?_⟩, ⟨?_⟩, ⟨?_⟩, ⟨?_⟩, ⟨?_⟩⟩, by simp [intOf]; omega⟩
      · rw [List.length_append]; exact HEE.out
      · intro x hx
        rcases List.mem_append.1 hx with h | h
        · exact HV.out x h
        · rw [List.mem_singleton.1 h]; exact ⟨hv0, hv⟩
      · exact blk_alloc (blk_far RB.out (p := ⟨g1 + 1, l.length, none⟩) (blk_ne RB.out LB.out (by decide)) _) _
      · exact blk_alloc (blk_far TB.out (p := ⟨g1 + 1, l.length, none⟩) (blk_ne TB.out LB.out (by decide)) _) _
      · rw [← padI_set l 4 _ (by omega)]; exact blk_alloc (blk_set LB.out _ _) _
      · exact below_alloc (BB.out.setCell (by simp; omega) _) _
    · obtain ⟨l0, l1, l2, l3, rfl⟩ := len4 l (by omega)
      have hv := HV.out
      simp only [List.mem_cons, List.not_mem_nil, or_false, forall_eq_or_imp, forall_eq] at hv
      obtain ⟨⟨a0, b0⟩, ⟨a1, b1⟩, ⟨a2, b2⟩, a3, b3⟩ := hv
      clear HV
      have HED : Aside0 ((if (decide (1 < l3) || !rightF nm l0 l1 l2) = true then zeroR else (nm, l0, l1, l2, l3 == 1, (m : Int), true)) = (r1, r2, r3, r4, r5, r6, r7)) := ⟨HE.out⟩
      clear HE
      have t0 : wr.cell? ⟨g1, 0, none⟩ = some (.string nm) := (blk_cell TA.out 0).trans rfl
      have c0 : wr.cell? ⟨g1 + 1, 0, none⟩ = some (.int .i64 l0) := (blk_cell LA.out 0).trans rfl
      have c1 : wr.cell? ⟨g1 + 1, 1, none⟩ = some (.int .i64 l1) := (blk_cell LA.out 1).trans rfl
      have c2 : wr.cell? ⟨g1 + 1, 2, none⟩ = some (.int .i64 l2) := (blk_cell LA.out 2).trans rfl
      have c3 : wr.cell? ⟨g1 + 1, 3, none⟩ = some (.int .i64 l3) := (blk_cell LA.out 3).trans rfl
      have hcase : 1 < l3 ∨ (l3 ≤ 1 ∧ rightF nm l0 l1 l2 = false) ∨ (l3 ≤ 1 ∧ rightF nm l0 l1 l2 = true) := by
        rcases Int.lt_or_le 1 l3 with h | h
        · exact .inl h
        · cases hr : rightF nm l0 l1 l2
          · exact .inr (.inl ⟨h, rfl⟩)
          · exact .inr (.inr ⟨h, rfl⟩)
      rcases hcase with hv | ⟨hv, hr⟩ | ⟨hv, hr⟩
      · have he := HED.out
        rw [if_pos (by simp [hv])] at he
        have HEE := Aside0.mk he
        clear he HED
        have rc0 : wr.cell? ⟨w.heap.size, 0, none⟩ = some (.string ⟨#[]⟩) := (blk_cell RA.out 0).trans rfl
        have rf0 : wr.frozen? ⟨w.heap.size, 0, none⟩ = false := blk_frozen RA.out 0
        have rc1 : wr.cell? ⟨w.heap.size, 1, none⟩ = some (.int .i64 0) := (blk_cell RA.out 1).trans rfl
        have rf1 : wr.frozen? ⟨w.heap.size, 1, none⟩ = false := blk_frozen RA.out 1
        have rc2 : wr.cell? ⟨w.heap.size, 2, none⟩ = some (.int .i64 0) := (blk_cell RA.out 2).trans rfl
        have rf2 : wr.frozen? ⟨w.heap.size, 2, none⟩ = false := blk_frozen RA.out 2
        have rc3 : wr.cell? ⟨w.heap.size, 3, none⟩ = some (.int .i64 0) := (blk_cell RA.out 3).trans rfl
        have rf3 : wr.frozen? ⟨w.heap.size, 3, none⟩ = false := blk_frozen RA.out 3
        have rc4 : wr.cell? ⟨w.heap.size, 4, none⟩ = some (.bool false) := (blk_cell RA.out 4).trans rfl
        have rf4 : wr.frozen? ⟨w.heap.size, 4, none⟩ = false := blk_frozen RA.out 4
        have rc5 : wr.cell? ⟨w.heap.size, 5, none⟩ = some (.int .i64 0) := (blk_cell RA.out 5).trans rfl
        have rf5 : wr.frozen? ⟨w.heap.size, 5, none⟩ = false := blk_frozen RA.out 5
        have rc6 : wr.cell? ⟨w.heap.size, 6, none⟩ = some (.bool false) := (blk_cell RA.out 6).trans rfl
        have rf6 : wr.frozen? ⟨w.heap.size, 6, none⟩ = false := blk_frozen RA.out 6
        go_wp2_with fail
        exact bodyPost_ret (v := .agg #[.string ⟨#[]⟩, .int .i64 0, .int .i64 0, .int .i64 0, .bool false, .int .i64 0, .bool false]) (by simp [results, Try.results15, go_sem, rc0, rc1, rc2, rc3, rc4, rc5, rc6, World.cell?_alloc_lt, L1]) rfl ⟨ret_R rfl HEE.out.symm, by (with_reducible repeat (first | exact BA.out | exact BB.out | apply below_alloc | apply pw_below_drewN | (refine Below.setCell ?_ (by simp) _)))⟩
      · have he := HED.out
        rw [if_pos (by simp [hr])] at he
        have HEE := Aside0.mk he
        have HR := Aside0.mk hr
        clear he hr HED
        go_wp2_with fail
        refine (weighlockref22_Right.calls (s.size + 1) nm l0 l1 l2 (l3 == 1) false _ (by rw [ref_right _ _ _ _ _ (by omega) _ (by omega), HR.out])).mono ?_
        rintro e w2 ⟨rfl, hb⟩
        have RB := Aside0.mk (blk_below (blk_alloc RA.out (.cells #[.string nm, .int .i64 l0, .int .i64 l1, .int .i64 l2, .bool (l3 == 1)] 23)) hb)
        have OB := Aside0.mk (blk_below (blk_new wr (.cells #[.string nm, .int .i64 l0, .int .i64 l1, .int .i64 l2, .bool (l3 == 1)] 23)) hb)
        have BB := Aside0.mk (below_step (below_alloc BA.out (.cells #[.string nm, .int .i64 l0, .int .i64 l1, .int .i64 l2, .bool (l3 == 1)] 23)) hb)
        have L3 : w.heap.size < w2.heap.size := blk_lt RB.out
        clear hb t0 c0 c1 c2 c3
        have rc0 : w2.cell? ⟨w.heap.size, 0, none⟩ = some (.string ⟨#[]⟩) := (blk_cell RB.out 0).trans rfl
        have rf0 : w2.frozen? ⟨w.heap.size, 0, none⟩ = false := blk_frozen RB.out 0
        have rc1 : w2.cell? ⟨w.heap.size, 1, none⟩ = some (.int .i64 0) := (blk_cell RB.out 1).trans rfl
        have rf1 : w2.frozen? ⟨w.heap.size, 1, none⟩ = false := blk_frozen RB.out 1
        have rc2 : w2.cell? ⟨w.heap.size, 2, none⟩ = some (.int .i64 0) := (blk_cell RB.out 2).trans rfl
        have rf2 : w2.frozen? ⟨w.heap.size, 2, none⟩ = false := blk_frozen RB.out 2
        have rc3 : w2.cell? ⟨w.heap.size, 3, none⟩ = some (.int .i64 0) := (blk_cell RB.out 3).trans rfl
        have rf3 : w2.frozen? ⟨w.heap.size, 3, none⟩ = false := blk_frozen RB.out 3
        have rc4 : w2.cell? ⟨w.heap.size, 4, none⟩ = some (.bool false) := (blk_cell RB.out 4).trans rfl
        have rf4 : w2.frozen? ⟨w.heap.size, 4, none⟩ = false := blk_frozen RB.out 4
        have rc5 : w2.cell? ⟨w.heap.size, 5, none⟩ = some (.int .i64 0) := (blk_cell RB.out 5).trans rfl
        have rf5 : w2.frozen? ⟨w.heap.size, 5, none⟩ = false := blk_frozen RB.out 5
        have rc6 : w2.cell? ⟨w.heap.size, 6, none⟩ = some (.bool false) := (blk_cell RB.out 6).trans rfl
        have rf6 : w2.frozen? ⟨w.heap.size, 6, none⟩ = false := blk_frozen RB.out 6
        have o0 : w2.cell? ⟨wr.heap.size, 0, none⟩ = some (.string nm) := (blk_cell OB.out 0).trans rfl
        have o1 : w2.cell? ⟨wr.heap.size, 1, none⟩ = some (.int .i64 l0) := (blk_cell OB.out 1).trans rfl
        have o2 : w2.cell? ⟨wr.heap.size, 2, none⟩ = some (.int .i64 l1) := (blk_cell OB.out 2).trans rfl
        have o3 : w2.cell? ⟨wr.heap.size, 3, none⟩ = some (.int .i64 l2) := (blk_cell OB.out 3).trans rfl
        have o4 : w2.cell? ⟨wr.heap.size, 4, none⟩ = some (.bool (l3 == 1)) := (blk_cell OB.out 4).trans rfl
        have hgo : wr.heap.size ≠ w.heap.size := by omega
        go_wp2_with fail
        exact bodyPost_ret (v := .agg #[.string ⟨#[]⟩, .int .i64 0, .int .i64 0, .int .i64 0, .bool false, .int .i64 0, .bool false]) (by simp [results, Try.results15, go_sem, rc0, rc1, rc2, rc3, rc4, rc5, rc6, World.cell?_alloc_lt, L1, L3, hgo]) rfl ⟨ret_R rfl HEE.out.symm, by (with_reducible repeat (first | exact BA.out | exact BB.out | apply below_alloc | apply pw_below_drewN | (refine Below.setCell ?_ (by simp) _)))⟩
      · have he := HED.out
        rw [if_neg (by simp [hr]; omega)] at he
        have HEE := Aside0.mk he
        have HR := Aside0.mk hr
        clear he hr HED
        go_wp2_with fail
        refine (weighlockref22_Right.calls (s.size + 1) nm l0 l1 l2 (l3 == 1) true _ (by rw [ref_right _ _ _ _ _ (by omega) _ (by omega), HR.out])).mono ?_
        rintro e w2 ⟨rfl, hb⟩
        have RB := Aside0.mk (blk_below (blk_alloc RA.out (.cells #[.string nm, .int .i64 l0, .int .i64 l1, .int .i64 l2, .bool (l3 == 1)] 23)) hb)
        have OB := Aside0.mk (blk_below (blk_new wr (.cells #[.string nm, .int .i64 l0, .int .i64 l1, .int .i64 l2, .bool (l3 == 1)] 23)) hb)
        have BB := Aside0.mk (below_step (below_alloc BA.out (.cells #[.string nm, .int .i64 l0, .int .i64 l1, .int .i64 l2, .bool (l3 == 1)] 23)) hb)
        have L3 : w.heap.size < w2.heap.size := blk_lt RB.out
        clear hb t0 c0 c1 c2 c3
        have rc0 : w2.cell? ⟨w.heap.size, 0, none⟩ = some (.string ⟨#[]⟩) := (blk_cell RB.out 0).trans rfl
        have rf0 : w2.frozen? ⟨w.heap.size, 0, none⟩ = false := blk_frozen RB.out 0
        have rc1 : w2.cell? ⟨w.heap.size, 1, none⟩ = some (.int .i64 0) := (blk_cell RB.out 1).trans rfl
        have rf1 : w2.frozen? ⟨w.heap.size, 1, none⟩ = false := blk_frozen RB.out 1
        have rc2 : w2.cell? ⟨w.heap.size, 2, none⟩ = some (.int .i64 0) := (blk_cell RB.out 2).trans rfl
        have rf2 : w2.frozen? ⟨w.heap.size, 2, none⟩ = false := blk_frozen RB.out 2
        have rc3 : w2.cell? ⟨w.heap.size, 3, none⟩ = some (.int .i64 0) := (blk_cell RB.out 3).trans rfl
        have rf3 : w2.frozen? ⟨w.heap.size, 3, none⟩ = false := blk_frozen RB.out 3
        have rc4 : w2.cell? ⟨w.heap.size, 4, none⟩ = some (.bool false) := (blk_cell RB.out 4).trans rfl
        have rf4 : w2.frozen? ⟨w.heap.size, 4, none⟩ = false := blk_frozen RB.out 4
        have rc5 : w2.cell? ⟨w.heap.size, 5, none⟩ = some (.int .i64 0) := (blk_cell RB.out 5).trans rfl
        have rf5 : w2.frozen? ⟨w.heap.size, 5, none⟩ = false := blk_frozen RB.out 5
        have rc6 : w2.cell? ⟨w.heap.size, 6, none⟩ = some (.bool false) := (blk_cell RB.out 6).trans rfl
        have rf6 : w2.frozen? ⟨w.heap.size, 6, none⟩ = false := blk_frozen RB.out 6
        have o0 : w2.cell? ⟨wr.heap.size, 0, none⟩ = some (.string nm) := (blk_cell OB.out 0).trans rfl
        have o1 : w2.cell? ⟨wr.heap.size, 1, none⟩ = some (.int .i64 l0) := (blk_cell OB.out 1).trans rfl
        have o2 : w2.cell? ⟨wr.heap.size, 2, none⟩ = some (.int .i64 l1) := (blk_cell OB.out 2).trans rfl
        have o3 : w2.cell? ⟨wr.heap.size, 3, none⟩ = some (.int .i64 l2) := (blk_cell OB.out 3).trans rfl
        have o4 : w2.cell? ⟨wr.heap.size, 4, none⟩ = some (.bool (l3 == 1)) := (blk_cell OB.out 4).trans rfl
        have hgo : wr.heap.size ≠ w.heap.size := by omega
        go_wp2_with fail
        exact bodyPost_ret (v := .agg #[.string nm, .int .i64 l0, .int .i64 l1, .int .i64 l2, .bool (l3 == 1), .int .i64 m, .bool true]) (by simp [results, Try.results15, go_sem, rc0, rc1, rc2, rc3, rc4, rc5, rc6, World.cell?_alloc_lt, L1, L3, hgo]) rfl ⟨ret_R rfl HEE.out.symm, by (with_reducible repeat (first | exact BA.out | exact BB.out | apply below_alloc | apply pw_below_drewN | (refine Below.setCell ?_ (by simp) _)))⟩
/-- weighlockref22.Decode, in the print's form -/
theorem weighlockref22_Decode.calls (a0 : ByteArray) (r1 : ByteArray) (r2 r3 r4 : Int) (r5 : Bool) (r6 : Int) (r7 : Bool) (w : World) (h : weighlockref22_Decode.f a0 = some (r1, r2, r3, r4, r5, r6, r7)) :
    Calls Try.prog 15 #[.string a0] w fun e w' => e = .returned (.agg #[.string r1, .int .i64 r2, .int .i64 r3, .int .i64 r4, .bool r5, .int .i64 r6, .bool r7]) ∧ Below w.heap.size w w' := by
  unfold weighlockref22_Decode.f at h
  by_cases hs : a0.size ≤ 140737488351232
  case neg => rw [if_neg hs] at h; exact absurd h (by simp)
  rw [if_pos hs] at h
  exact decR_calls a0 _ _ _ _ _ _ _ w hs (Option.some.inj h)
end Go.Proofs.Ytkkacbjopkaolaa.HandTopic3
