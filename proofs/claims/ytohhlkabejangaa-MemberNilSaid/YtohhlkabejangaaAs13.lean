import Derived.Test.YtohhlkabejangaaAs12
namespace Go.Proofs.Ytohhlkabejangaa.As
open Go.RowKit Go.Maps Go.Sort Go.ChangeShapes Go.Proofs.YtohhlkabejangaaW.PrintWords Go.Proofs.YtohhlkabejangaaW.PrintLast Go.Proofs.YtohhlkabejangaaW.PrintMore Go.Proofs.Ytohhlkabejangaa.PAs
open Go.WideElems (Fit rd rg pl rd_val elemAt)
set_option linter.unusedVariables false
set_option linter.unusedSimpArgs false
theorem entry_uniq {es : List MapEntry} (h : es.Pairwise (fun x y => x.key ≠ y.key)) {x y : MapEntry} (hx : x ∈ es) (hy : y ∈ es) (e : x.key = y.key) : x = y := by
  obtain ⟨i, hi, rfl⟩ := List.getElem_of_mem hx
  obtain ⟨j, hj, rfl⟩ := List.getElem_of_mem hy
  rw [List.pairwise_iff_getElem] at h
  rcases Nat.lt_trichotomy i j with h1 | h1 | h1
  · exact (h i j hi hj h1 e).elim
  · subst h1; rfl
  · exact (h j i hj hi h1 e.symm).elim
/-- a look-up tells the same as long as the map's block is the same -/
theorem look_same {P : Program} {w W : World} {k E t : TypeId} {b : Nat} {es : Array MapEntry} {clock : Nat} {R R' : Value → Option (DataW Unit × List MemPlace)} (K : Keyed P k) (ht : P.underlying t = some (.map k E)) {z : Value} (hz : (zeroValue E).run P w = .ok z w) (hz' : (zeroValue E).run P W = .ok z W)
    (hb : w.heap[b]? = some (.map es clock)) (hb' : W.heap[b]? = some (.map es clock)) (F : Fit P k R es clock) (F' : Fit P k R' es clock) {key : Value} {kl : Lit} (hkey : keyOf P k key = some kl) {c : Bool} {v : Value} (h : (Instr.lookup t (.map (some b)) key c).run P w = .ok v w) :
    (Instr.lookup t (.map (some b)) key c).run P W = .ok v W := by
  have hn : es.toList.Pairwise (fun x y => x.key ≠ y.key) := ((Go.MapKept.stamped_iff es clock).1 F.stamped).2.2
  rcases Maps.fit_look c K ht hz hb F hkey with ⟨hrun, hno, _⟩ | ⟨e0, y, hm0, h3, hrun, _, _⟩ <;> rcases Maps.fit_look c K ht hz' hb' F' hkey with ⟨hrun', hno', _⟩ | ⟨e0', y', hm0', h3', hrun', _, _⟩
  · rw [h] at hrun
    rw [hrun']
    simp only [Result.ok.injEq, and_true] at hrun
    rw [hrun]
  · exact (hno _ hm0' h3').elim
  · exact (hno' _ hm0 h3).elim
  · obtain rfl := entry_uniq hn hm0 hm0' (h3.trans h3'.symm)
    rw [h] at hrun
    rw [hrun']
    simp only [Result.ok.injEq, and_true] at hrun
    rw [hrun]
theorem Grp.look {w : World} {b q : Nat} {l : List ByteArray} {n : Nat} (h : Grp w b q l n) (hq : q ≤ 6000) (hw : wrongL l = 0) (x : ByteArray) (hx : x.size ≤ 1000) (hin : isIn l x.toList = true) :
    ∃ A c, (∀ W, Below w.heap.size w W → (Instr.lookup 25 (.map (some b)) (.string x) false).run Try.prog W = .ok (.slice A (ofL l n x.toList).length c) W) ∧ (ofL l n x.toList).length ≤ c ∧ Kd.C (Kd.int .i64) w A (ofL l n x.toList).length (ofL l n x.toList) := by
  obtain ⟨A, c, hrun, hc, hC⟩ := h.at' hq hw x hx hin
  refine ⟨A, c, fun W hb => ?_, hc, hC⟩
  have hW := h.later hb
  obtain ⟨es, clock, h1, F, _⟩ := h
  obtain ⟨es', clock', h1', F', _⟩ := hW
  have h2 : W.heap[b]? = some (.map es clock) := (hb.block b (Array.getElem?_eq_some_iff.1 h1).1).trans h1
  obtain ⟨rfl, rfl⟩ : es' = es ∧ clock' = clock := by rw [h1'] at h2; simpa using h2
  exact look_same str_law Try.underlying25 (zeroIS w) (zeroIS W) h1 h2 F F' (key_B x hx) hrun
/-- the members, sorted, one by one -/
theorem srtB_at (l : List ByteArray) (hw : wrongL l = 0) (j : Nat) (hj : j < (srtB l).length) : rkL l (srtB l)[j].toList = j ∧ isIn l (srtB l)[j].toList = true ∧ ((∀ s ∈ l, s.size ≤ 1000) → (srtB l)[j].size ≤ 1000) := by
  have hj' : j < (srt l).length := by rw [srt_length, ← srtB_length]; exact hj
  have e : (srtB l)[j] = mkB (srt l)[j] := by simp [srtB]
  have hm : (srt l)[j] ∈ srt l := List.getElem_mem _
  rw [e, mkB_toList]
  refine ⟨rk_srt l (wrong_nodup hw) j hj', (isIn_srt l _).2 hm, fun hz => ?_⟩
  obtain ⟨s, hs, he⟩ := List.mem_map.1 ((srt_perm l).mem_iff.1 hm)
  rw [← he, toList_mkB]
  exact hz s hs
theorem any_srtB (l : List ByteArray) (m : ByteArray) : (srtB l).any (fun x => x.toList == m.toList) = isIn l m.toList := by
  rw [Bool.eq_iff_iff, List.any_eq_true, isIn_srt]
  unfold srtB
  constructor
  · rintro ⟨x, hx, e⟩
    obtain ⟨y, hy, rfl⟩ := List.mem_map.1 hx
    rw [mkB_toList] at e
    rw [← eq_of_beq e]
    exact hy
  · intro h
    exact ⟨mkB m.toList, List.mem_map_of_mem h, by rw [mkB_toList]; exact beq_self_eq_true _⟩
end Go.Proofs.Ytohhlkabejangaa.As
