import Derived.Test.YtohhlkabejangaaAs5
namespace Go.Proofs.Ytohhlkabejangaa.As
open Go.RowKit Go.Maps Go.Sort Go.ChangeShapes Go.Proofs.YtohhlkabejangaaW.PrintWords Go.Proofs.YtohhlkabejangaaW.PrintLast Go.Proofs.YtohhlkabejangaaW.PrintMore Go.Proofs.Ytohhlkabejangaa.PAs
set_option linter.unusedVariables false
set_option linter.unusedSimpArgs false
theorem index_loop (l : List Int) (a : Int) (hl : l.length ≤ 1000) : ∀ (d i k : Nat), i + d = l.length → d < k → (∀ j, j < i → ∀ h : j < l.length, l[j] ≠ a) →
    ∃ r, slices_Index_int_int.l0 k l a (l.length : Int) (i : Int) = some r ∧ decide (r ≥ 0) = decide (a ∈ l)
  | 0, i, k, hi, hk, hj => by
    obtain ⟨k, rfl⟩ : ∃ k', k = k' + 1 := ⟨k - 1, by omega⟩
    rw [slices_Index_int_int.l0, if_neg (by omega)]
    refine ⟨-1, rfl, ?_⟩
    have : ¬ a ∈ l := fun h => by
      obtain ⟨j, hjl, e⟩ := List.getElem_of_mem h
      exact hj j (by omega) hjl e
    rw [decide_eq_false this]
    rfl
  | d + 1, i, k, hi, hk, hj => by
    obtain ⟨k, rfl⟩ : ∃ k', k = k' + 1 := ⟨k - 1, by omega⟩
    have hin : i < l.length := by omega
    have hrd : Go.Proofs.YtohhlkabejangaaW.PrintWords.rd l (i : Int) = l[i] := by
      unfold Go.Proofs.YtohhlkabejangaaW.PrintWords.rd
      rw [Int.toNat_natCast, List.getD_eq_getElem?_getD, List.getElem?_eq_getElem hin]
      rfl
    rw [slices_Index_int_int.l0, if_pos (by omega), if_pos (by omega), if_pos (by omega), hrd]
    by_cases e : a = l[i]
    · rw [if_pos e]
      refine ⟨_, rfl, ?_⟩
      rw [decide_eq_true (show (i : Int) ≥ 0 by omega), decide_eq_true (show a ∈ l by rw [e]; exact List.getElem_mem hin)]
    · rw [if_neg e, w64 _ (by omega) (by omega)]
      exact index_loop l a hl d (i + 1) k (by omega) (by omega) (fun j hj1 hjl he => by
        rcases Nat.lt_or_ge j i with h | h
        · exact hj j h hjl he
        · obtain rfl : j = i := by omega
          exact e he.symm)
/-- slices.Contains -/
theorem contains_f (l : List Int) (a : Int) (hl : l.length ≤ 1000) : slices_Contains_int_int.f 1001 l a = some (decide (a ∈ l)) := by
  obtain ⟨r, h1, h2⟩ := index_loop l a hl l.length 0 1001 (by omega) (by omega) (fun j hj => absurd hj (by omega))
  unfold slices_Contains_int_int.f slices_Index_int_int.f
  have h1' : slices_Index_int_int.l0 1001 l a (l.length : Int) 0 = some r := h1
  rw [h1', Option.bind_some, h2]
set_option maxHeartbeats 16000000 in
set_option maxRecDepth 100000 in
theorem owner_bad (A : Option Addr) (c : Nat) (l : List ByteArray) (n z p : Int) (w : World) (hA : Kd.C Kd.string w A l.length l) (hl : l.length ≤ 1000) (hz : ∀ s ∈ l, s.size ≤ 1000) (h0 : wrongL l ≠ 0 ∨ n < 0 ∨ n > 4) (hzz : z = if wrongL l = 0 then 1 else wrongL l) :
    Calls Try.prog 25 #[.slice A l.length c, .int .i64 n, .int .i64 p] w fun e w' => e = .returned (.tuple #[.string ⟨#[]⟩, .int .i64 z]) ∧ Below w.heap.size w w' := by
  have hs := range_bad A c l n z w hA hl hz h0 hzz
  have hz0 : z ≠ 0 := by
    rw [hzz]
    split
    · decide
    · assumption
  have c1 : (z == 0) = false := beq_eq_false_iff_ne.2 hz0
  have c2 : (z != 0) = true := bne_iff_ne.2 hz0
  have c3 : decide (z ≠ 0) = true := decide_eq_true hz0
  have hs := Aside0.mk hs
  clear hA hz hzz h0
  go_enter Try.func25, Try.ntmps25
  go_wp2_with fail
  refine hs.out.mono ?_
  rintro e w1 ⟨rfl, hB⟩
  have HB := Aside0.mk hB
  clear hs hB
  go_wp2_with fail
  exact bodyPost_ret (v := .tuple #[.string ⟨#[]⟩, .int .i64 z]) (by simp [results, Try.results25, go_sem]) rfl ⟨rfl, HB.out⟩
/-- a map of slices, read at a fixed world -/
theorem groups_map {P : Program} {w : World} {k base e b n : Nat} {q : IntKind} {D : DataW Unit} (h : w.ownsGroups P k base e q b n D) : w.ownsMap P k (rowElem (H := Unit) w base e q) b n D := by
  obtain ⟨es, clock, hb, F, hs, rfl, _⟩ := h
  exact ⟨es, clock, hb, F, hs, rfl⟩
end Go.Proofs.Ytohhlkabejangaa.As
