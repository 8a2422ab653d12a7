import Derived.Test.YtohhlkabejangaaUOf5
import Derived.Shelf.SlSortCmp.NoneTotal
-- halved
namespace Go.Proofs.Ytohhlkabejangaa.Of
set_option linter.unusedVariables false
set_option linter.unusedSimpArgs false
open Go.RowKit Go.Maps Go.Sort Go.Lib Go.Shelf Go.Proofs.YtohhlkabejangaaW.PrintWords Go.Proofs.YtohhlkabejangaaW.PrintLast Go.Proofs.YtohhlkabejangaaW.PrintMore Go.Proofs.Ytohhlkabejangaa.POf
theorem kLt_of {x y : Ky} (h : ltOf cK y x = false) (hne : x ≠ y) : kLt x y := by
 have h1 : ¬ kLt y x := fun h2 => of_decide_eq_false h ((cK_lt y x).2 h2)
 rcases kLt_tri x y with h2 | ⟨e1, e2, e3⟩ | h2
 ·exact h2
 ·refine (hne ?_).elim
  obtain ⟨a, b, c⟩ := x
  obtain ⟨a', b', c'⟩ := y
  have f1 := toList_inj e1
  have f2 := toList_inj e2
  dsimp only at f1 f2 e3
  subst f1 f2 e3
  rfl
 ·exact (h1 h2).elim
theorem sorted_pair {d d' : Array Ky} (hp : PermIn 0 d.size d d') (hs : SortedIn (ltOf cK) 0 d.size d') (hn : d.toList.Nodup) : d'.size = d.size ∧ d'.toList.Perm d.toList ∧ d'.toList.Pairwise kLt := by
 obtain ⟨h1, _, h3⟩ := hp
 have h5 : d'.extract 0 d.size = d' := by rw [← h1]; simp
 have h6 : d.extract 0 d.size = d := by simp
 rw [h5, h6] at h3
 have h4 : d'.toList.Perm d.toList := h3
 have hn' : d'.toList.Nodup := h4.symm.nodup hn
 refine ⟨h1, h4, List.pairwise_iff_getElem.2 fun i j hi hj hij => ?_⟩
 have hi' : i < d'.size := by simpa using hi
 have hj' : j < d'.size := by simpa using hj
 have h := hs i j (Nat.zero_le _) hij (by omega)
 rw [getElem!_pos _ i hi', getElem!_pos _ j hj'] at h
 refine kLt_of (by simpa using h) (fun e => ?_)
 have := (List.nodup_iff_pairwise_ne.1 hn')
 exact (List.pairwise_iff_getElem.1 this i j hi hj hij) e
set_option maxHeartbeats 2000000 in
set_option maxRecDepth 100000 in
theorem sortedFunc_calls {H : Type} (Bm b nn : Nat) (D0 : DataW H) {R : Value → Option (DataW H × List MemPlace)} (w : World) (hBm : Bm < w.heap.size) (hm : w.cell? ⟨Bm, 0, none⟩ = some (.map (some b))) (hown : w.ownsMap Try.prog 74 R b nn D0) (hN : Maps.size D0 ≤ maxLen) (hNb : Maps.size D0 * 40 ≤ 140737488355328) :
  Calls Try.prog 94 #[.func (.func 133) #[] #[.pointer (some ⟨Bm, 0, none⟩)], .func (.func 96) #[] #[]] w fun e w' => ∃ (v : Value) (ys : List Ky), e = .returned v ∧ KeysD D0 ys ∧ ys.Pairwise kLt ∧
   w'.ownsRow w.heap.size 74 3 v ys.length (ys.flatMap encK) ∧ (v = .slice none 0 0 ↔ ys = []) ∧ Below w.heap.size w w' := by
 have hseq := keys_gives Fence.wide 2 trivial rfl (by omega) Bm b nn D0 (R := R) w hBm hm hown
 have hcol := callsIn_wide.1 (collect_in Fence.wide 4 trivial trivial rfl (by omega) 133 #[.pointer (some ⟨Bm, 0, none⟩)] trivial (enters_of Try.func133 (by kernel_rfl) rfl) _ _ hN hNb w hseq.bounded)
 have eg : ∀ args w, (callFunc 96 args).run Try.prog w = .ok (.enter 96 args) w := enters_of Try.func96 (by kernel_rfl) rfl
 clear hseq hown hm
 go_enter Try.func94, Try.ntmps94
 go_wp2_with (go_at_call 131; refine hcol.mono ?_; rintro e W ⟨v, xs, rfl, ⟨hS, hlen⟩, hrow, hnil, hb⟩)
 rcases hrow.2 with ⟨rfl, hz⟩ | ⟨gb, cap, cur, rfl, hbase, hgb, r1, r2, r3, r4⟩
 ·have hxs : xs = [] := List.eq_nil_of_length_eq_zero hz
  subst hxs
  have hnone := AnyF.slices_SortFunc_none Try.sortK none 0 (.func (.func 96) #[] #[]) W
  change Calls Try.prog 132 _ _ _ at hnone
  go_wp2_with (go_at_call 132; refine hnone.mono ?_; rintro e w' ⟨rfl, rfl⟩)
  go_ret
  exact ⟨.slice none 0 0, [], rfl, hS, List.Pairwise.nil, by simpa using hrow, by simp, hb⟩
 ·have hH : HoldsK encK 3 W gb 0 xs.toArray := holdsK_of hgb r4
  have hgl : gb < W.heap.size := (Array.getElem?_eq_some_iff.1 hgb).1
  have hsz : xs.toArray.size < 4611686018427387904 := by
   have h1 : xs.toArray.size = xs.length := by simp
   rw [h1]
   omega
  have hcon := AnyQ.slices_SortFunc Try.sortK 3 Try.isAgg74 Try.sizeOf74 encK (fun _ => rfl) (fun x v hv => by simp [encK] at hv; rcases hv with rfl | rfl | rfl <;> rfl) cK swoK 96 #[] gb 0 cap xs.toArray W eg (cmpLaysK gb 0 xs.toArray.size W) hH hgl hsz
  change Calls Try.prog 132 _ _ _ at hcon
  have hsx : xs.toArray.size = xs.length := by simp
  rw [hsx] at hcon
  clear hH
  go_wp2_with (go_at_call 132; refine hcon.mono ?_; rintro e w' ⟨rfl, d', nn', os, hp, hs, rfl⟩)
  go_ret
  obtain ⟨s1, s2, s3⟩ := sorted_pair (d := xs.toArray) (by simpa using hp) (by simpa using hs) (by simpa using hS.1)
  have s4 : d'.size = xs.length := by simpa using s1
  have hr := ownsRow_sortedK (n := nn') (os := os) s4 hbase hgb r1 r2 r3
  refine ⟨.slice (some ⟨gb, 0, none⟩) xs.length cap, d'.toList, rfl, ⟨s2.symm.nodup (by simpa using hS.1), fun x => ?_⟩, s3, ?_, ?_, ?_⟩
  ·rw [s2.mem_iff]
   simpa using hS.2 x
  ·have e1 : d'.toList.length = xs.length := by rw [Array.length_toList, s4]
   rw [e1]
   exact hr
  ·rw [hnil]
   constructor
   ·intro e
    exact List.eq_nil_of_length_eq_zero (by rw [Array.length_toList, s4, e]; rfl)
   ·intro e
    exact List.eq_nil_of_length_eq_zero (by rw [← s4, ← Array.length_toList, e]; rfl)
  ·exact hb.grown (grownBy_sortedV _) hb.size (fun j hj => by cases hj; exact hbase)
end Go.Proofs.Ytohhlkabejangaa.Of
