import Derived.Test.YtohhlkabejangaaUOf6
-- halved
namespace Go.Proofs.Ytohhlkabejangaa.Of
set_option linter.unusedVariables false
set_option linter.unusedSimpArgs false
open Go.RowKit Go.Maps Go.Sort Go.Lib Go.Shelf Go.Proofs.YtohhlkabejangaaW.PrintWords Go.Proofs.YtohhlkabejangaaW.PrintLast Go.Proofs.YtohhlkabejangaaW.PrintMore Go.Proofs.Ytohhlkabejangaa.POf
set_option maxHeartbeats 2000000 in
theorem Keys_calls {H : Type} (g b nn : Nat) (D0 : DataW H) {R : Value → Option (DataW H × List MemPlace)} (w : World) (hg : w.cell? ⟨g, 0, none⟩ = some (.map (some b))) (hown : w.ownsMap Try.prog 74 R b nn D0) (hN : Maps.size D0 ≤ maxLen) (hNb : Maps.size D0 * 40 ≤ 140737488355328) :
  Calls Try.prog 47 #[.pointer (some ⟨g, 0, none⟩)] w fun e w' => ∃ (v : Value) (ys : List Ky), e = .returned v ∧ KeysD D0 ys ∧ ys.Pairwise kLt ∧
   w'.ownsRow w.heap.size 74 3 v ys.length (ys.flatMap encK) ∧ (v = .slice none 0 0 ↔ ys = []) ∧ Below w.heap.size w w' := by
 have hk := callsIn_wide.1 (keys_in Fence.wide 1 trivial rfl (some b) w)
 have hbl := hown.lt
 have hown1 : (w.alloc (.cells #[.map (some b)] 154)).ownsMap Try.prog 74 R b nn D0 := by
  obtain ⟨es, clock, hb, Ft, hs, hD⟩ := hown
  exact ⟨es, clock, (Below.heap_alloc _ _ b hbl).trans hb, Ft, hs, hD⟩
 have hs := sortedFunc_calls w.heap.size b nn D0 (R := R) (w.alloc (.cells #[.map (some b)] 154)) (by simp) (by simp) hown1 hN hNb
 clear hown hown1
 go_enter Try.func47, Try.ntmps47
 go_wp2_with (first
  | (go_at_call 95; refine hk.mono ?_; rintro e w' ⟨rfl, rfl⟩)
  | (go_at_call 94; refine hs.mono ?_; rintro e w' ⟨v, ys, rfl, h1, h2, h3, h4, h5⟩))
 go_ret
 refine ⟨v, ys, rfl, h1, h2, ownsRow_base_a h3 (by simp), h4, ?_⟩
 exact ⟨h5.os, h5.tape, h5.output, Nat.le_trans (by simp) h5.size, fun k hk => (h5.block k (by simp; omega)).trans (Below.heap_alloc _ _ k hk)⟩
end Go.Proofs.Ytohhlkabejangaa.Of
