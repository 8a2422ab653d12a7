import Derived.Test.YtohhlkabejangaaAs0
import Derived.Test.YtohhlkabejangaaIterV
import Derived.Test.YtohhlkabejangaaClCo
namespace Go.Proofs.Ytohhlkabejangaa.As
open Go.RowKit Go.Maps Go.Sort Go.Proofs.YtohhlkabejangaaW.PrintWords Go.Proofs.YtohhlkabejangaaW.PrintLast Go.Proofs.YtohhlkabejangaaW.PrintMore Go.Proofs.Ytohhlkabejangaa.PAs
set_option linter.unusedVariables false
set_option linter.unusedSimpArgs false
abbrev kStr : Kd (List UInt8) := Kd.scalar encStr (fun _ => rfl)
theorem nodup_of (zs : List (List UInt8)) (hs : zs.Pairwise (fun a b => a ≤ b)) (hk : ∀ j, j < zs.length → Lib.keeps zs.toArray j = true) : zs.Nodup := by
  rw [List.Nodup, List.pairwise_iff_getElem]
  rw [List.pairwise_iff_getElem] at hs
  intro i j hi hj hij e
  have h1 := hk j hj
  unfold Lib.keeps at h1
  simp only [decide_eq_true_eq] at h1
  rcases h1 with h1 | h1
  · omega
  · have hj1 : j - 1 < zs.length := by omega
    rw [getElem!_pos _ j (by simpa using hj), getElem!_pos _ (j - 1) (by simpa using hj1)] at h1
    simp only [List.getElem_toArray] at h1
    have h2 : zs[j - 1] ≤ zs[j] := hs (j - 1) j hj1 hj (by omega)
    have h3 : zs[i] ≤ zs[j - 1] := by
      rcases Nat.lt_or_ge i (j - 1) with h | h
      · exact hs i (j - 1) hi hj1 h
      · have : i = j - 1 := by omega
        subst this
        exact List.le_refl _
    rw [e] at h3
    exact h1 (List.le_antisymm h3 h2)
theorem compact_nodup (zs : List (List UInt8)) (h : zs.Nodup) : Lib.compact zs = zs := by
  refine Lib.compact_all zs fun j hj => ?_
  unfold Lib.keeps
  simp only [decide_eq_true_eq]
  rcases Nat.eq_zero_or_pos j with h0 | h0
  · exact .inl h0
  · refine .inr ?_
    have hj1 : j - 1 < zs.length := by omega
    rw [getElem!_pos _ j (by simpa using hj), getElem!_pos _ (j - 1) (by simpa using hj1)]
    simp only [List.getElem_toArray]
    rw [List.Nodup, List.pairwise_iff_getElem] at h
    exact fun e => h (j - 1) j hj1 hj (by omega) e.symm
theorem compact_lt (zs : List (List UInt8)) (hs : zs.Pairwise (fun a b => a ≤ b)) (h : ¬ zs.Nodup) : (Lib.compact zs).length < zs.length := by
  have : ∃ j, j < zs.length ∧ Lib.keeps zs.toArray j ≠ true := Classical.byContradiction fun hn => h (nodup_of zs hs fun j hj => Classical.byContradiction fun hj' => hn ⟨j, hj, hj'⟩)
  obtain ⟨j, hj, hk⟩ := this
  unfold Lib.compact Lib.compactUpTo
  rw [List.length_map]
  have e : zs.length = (List.range zs.length).length := List.length_range.symm
  conv => rhs; rw [e]
  exact List.length_filter_lt_length_iff_exists.2 ⟨j, List.mem_range.2 hj, hk⟩
/-- the members, sorted -/
def srt (l : List ByteArray) : List (List UInt8) := (l.map (·.toList)).mergeSort (fun x y => decide (x ≤ y))
theorem srt_perm (l : List ByteArray) : (srt l).Perm (l.map (·.toList)) := List.mergeSort_perm _ _
theorem srt_length (l : List ByteArray) : (srt l).length = l.length := by rw [(srt_perm l).length_eq, List.length_map]
theorem srt_sorted (l : List ByteArray) : (srt l).Pairwise (fun a b => a ≤ b) := by
  have := List.pairwise_mergeSort (le := fun (x y : List UInt8) => decide (x ≤ y)) (fun a b c h1 h2 => by
    simp only [decide_eq_true_eq] at *
    exact List.le_trans h1 h2) (fun a b => by
    simp only [Bool.or_eq_true, decide_eq_true_eq]
    exact List.le_total a b) (l.map (·.toList))
  exact this.imp (fun h => of_decide_eq_true h)
theorem srt_nodup (l : List ByteArray) : (srt l).Nodup ↔ (l.map (·.toList)).Nodup := (srt_perm l).nodup_iff
/-- why members have no partitions: a bad name, the same twice -/
def wrongL (l : List ByteArray) : Int := if l.all nameB = true then (if (l.map (·.toList)).Nodup then 0 else 8) else 1
theorem rd_at (l : List ByteArray) (i : Nat) (hi : i < l.length) : rdOf ByteArray.empty l (i : Int) = l[i] := by
  unfold rdOf
  rw [Int.toNat_natCast, List.getD_eq_getElem?_getD, List.getElem?_eq_getElem hi]
  rfl
theorem enc_str (s : ByteArray) : encStr s.toList = Value.string s := by
  unfold encStr
  rw [str_toList]
theorem strs_of (l : List ByteArray) (A : Option Addr) (c : Nat) (w : World) (h : Kd.C Kd.string w A l.length l) : AsV.Strs w.heap.size w (.slice A l.length c) (l.map (·.toList)) := by
  rcases Nat.eq_zero_or_pos l.length with h0 | h0
  · obtain rfl := List.eq_nil_of_length_eq_zero h0
    exact .inl ⟨rfl, A, c, rfl⟩
  · obtain ⟨ad, e, hx⟩ := Kd.at_string h 0 (by omega) (by omega)
    have hsp : ad.spot = none := by
      unfold World.cell? at hx
      split at hx
      · split at hx
        · cases hx
        · rename_i h2
          simpa [Addr.add] using h2
      · cases hx
    have hb : ad.block < w.heap.size := by
      unfold World.cell? at hx
      split at hx
      · rename_i h2
        exact (Array.getElem?_eq_some_iff.1 h2).1
      · cases hx
    refine .inr ⟨ad.block, ad.off, c, ?_, hb, fun j hj => ?_⟩
    · rw [e, List.length_map]
      have : ad = ⟨ad.block, ad.off, none⟩ := by
        rw [← hsp]
      rw [← this]
    · rw [List.length_map] at hj
      obtain ⟨ad', e', hx'⟩ := Kd.at_string h (j : Int) (by omega) (by omega)
      rw [e] at e'
      obtain rfl := Option.some.inj e'
      rw [rd_at l j hj, Int.toNat_natCast] at hx'
      have e3 : ad.add j = ⟨ad.block, ad.off + j, none⟩ := by
        obtain ⟨b0, o0, s0⟩ := ad
        obtain rfl : s0 = none := hsp
        unfold Addr.add
        simp
        try omega
      rw [e3] at hx'
      rw [hx', List.getElem?_map, List.getElem?_eq_getElem hj]
      exact (congrArg some (enc_str l[j])).symm
end Go.Proofs.Ytohhlkabejangaa.As
