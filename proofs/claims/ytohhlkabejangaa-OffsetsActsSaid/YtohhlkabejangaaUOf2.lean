import Derived.Test.YtohhlkabejangaaUOf1
import Derived.Shelf.SlIter.Nil
import Derived.Shelf.SortM.Plain
import Derived.Shelf.SortM.SortNone
import Derived.Ground.GgzProg
import Derived.Ground.SlgmProg
import Derived.Test.YtohhlkabejangaaProg
import Derived.RangeFuncBox
import Derived.RangeFuncLeaves
import Derived.WalkKit
import Derived.OwnWalkIn
import Derived.TacticsInMore
import Derived.LoopNIn
import Derived.LoopIn
-- halved
namespace Go.Proofs.Ytohhlkabejangaa.Of
set_option linter.unusedVariables false
set_option linter.unusedSimpArgs false
open Go.RowKit Go.Maps Go.Sort Go.Lib Go.Shelf Go.Proofs.YtohhlkabejangaaW.PrintWords Go.Proofs.YtohhlkabejangaaW.PrintLast Go.Proofs.YtohhlkabejangaaW.PrintMore Go.Proofs.Ytohhlkabejangaa.POf
attribute [local go_sem] Oper.semAt_some
def CollK {H : Type} (D0 : DataW H) (left : Lit → Bool) (xs : List Ky) : Prop := xs.Nodup ∧ ∀ x, x ∈ xs ↔ (okK x ∧ has D0 (litK x) = true ∧ left (litK x) = false)
def KeysD {H : Type} (D0 : DataW H) (xs : List Ky) : Prop := xs.Nodup ∧ ∀ x, x ∈ xs ↔ (okK x ∧ has D0 (litK x) = true)
theorem CollK.start {H : Type} (D0 : DataW H) : CollK D0 (has D0) [] := ⟨List.nodup_nil, fun x => by cases h : has D0 (litK x) <;> simp [h]⟩
theorem CollK.step {H : Type} {D0 : DataW H} {left : Lit → Bool} {xs : List Ky} (h : CollK D0 left xs) {x : Ky} {y : DataW H} (hx : okK x) (hlk : left (litK x) = true) (hat : ∀ zd, D0.atKey (litK x) zd = y) : CollK D0 (fun z => left z && !z.sameKey (litK x)) (xs ++ [x]) := by
 have hhas : has D0 (litK x) = true := has_true_of_atKey hat
 have hnew : x ∉ xs := fun hx => by have := ((h.2 x).1 hx).2.2; rw [hlk] at this; cases this
 refine ⟨List.nodup_append.2 ⟨h.1, by simp, fun a ha b hb => by simp at hb; subst hb; exact fun e => hnew (e ▸ ha)⟩, fun y => ?_⟩
 by_cases hy : y = x
 ·subst hy
  have : (litK y).sameKey (litK y) = true := WideAt.sameKey_self trivial
  simp [hhas, this, hx]
 ·rw [List.mem_append, h.2 y]
  constructor
  ·rintro (⟨h1, h2, h3⟩ | h1)
   ·exact ⟨h1, h2, by simp [h3]⟩
   ·exact (hy (by simpa using h1)).elim
  ·rintro ⟨h1, h2, h3⟩
   refine .inl ⟨h1, h2, ?_⟩
   have hne : (litK y).sameKey (litK x) = false := by
    cases hs : (litK y).sameKey (litK x)
    ·rfl
    ·exact (hy (litK_inj h1 hx (WideAt.sameKey_eq hs))).elim
   simpa [hne] using h3
theorem CollK.fin {H : Type} {D0 : DataW H} {left : Lit → Bool} {xs : List Ky} (h : CollK D0 left xs) (hl : ∀ kl, left kl = false) : KeysD D0 xs := ⟨h.1, fun x => by rw [h.2 x, hl]; simp⟩
set_option maxRecDepth 100000 in
set_option maxHeartbeats 2000000 in
theorem keys1N_in {H : Type} (F : Fence) (n : Nat) (h10 : F.fn 133) (hro : F.round = none) (hn : 1 ≤ n) (l Bm b nn : Nat) (D0 : DataW H) {R : Value → Option (DataW H × List MemPlace)} (J : List Ky → World → Prop)
  (hY : ∀ pre x W, J pre W → pre.length < Maps.size D0 → YieldAt F (n - 1) Try.prog l #[valK x] W fun e W' => e = .returned (.bool true) ∧ J (pre ++ [x]) W' ∧ KeepsWalks W W')
  (W : World) (hJ : AbidesFrom W.heap.size J) (hm : W.cell? ⟨Bm, 0, none⟩ = some (.map (some b))) (hown : W.ownsMap Try.prog 74 R b nn D0) (h0 : J [] W) :
  CallsIn F n Try.prog 133 #[.func (.yield l) #[] #[], .pointer (some ⟨Bm, 0, none⟩)] W fun e W' => (∃ v, e = .returned v) ∧ ∃ xs : List Ky, KeysD D0 xs ∧ J xs W' := by
 refine callsIn_of_wp Try.func133 rfl h10 ?_ hro
 simp only [Try.ntmps133, List.size_toArray, List.length_cons, List.length_nil, Nat.reduceAdd, Nat.reduceSub, Array.replicate_succ, Array.replicate_zero, List.push_toArray, List.append_toArray, List.nil_append, List.cons_append]
 gi_wp2_with (first
  | (gi_at_range; refine wpListIn_range_own _ rfl _ 154 rfl 74 3 keyed Try.underlying154 _ b nn _ rfl hown ?_; intro w0 hrg0 hg0 hs0)
  | gi_in)
 go_frame
 gi_loopw [3] (fun _ wr => ∃ (left : Lit → Bool) (cnt : Nat) (ss : List Ky), wr.ranges Try.prog 74 R b W.heap.size nn D0 left cnt ∧ ss.length + cnt ≤ Maps.size D0 ∧ CollK D0 left ss ∧ J ss wr)
  (fun _ wr => wr.rangeLeft b W.heap.size)
 case atStart =>
  exact ⟨_, _, [], hrg0, by simp, CollK.start D0, hJ [] W w0 none h0 hg0 (fun r e => by cases e)⟩
 case round =>
  obtain ⟨left, cnt, ss, hrg, hcs, hC, hJs⟩ := hrel
  gi_wp2_with (first
   | (gi_at_next; refine wpListIn_next_ranges _ rfl _ rfl 74 keyed R valK id (fun key kl hk => by obtain ⟨x, hx, _⟩ := keyOf_inv hk; exact ⟨x, hx⟩) (fun v _ _ => ⟨v, rfl⟩) b W.heap.size nn _ _ _ rfl hrg ?_ ?_)
   | gi_in)
  ·-- nothing is left
   intro hc0 hl0
   gi_wp2
   go_end0
   exact ⟨⟨_, rfl⟩, ss, hC.fin hl0, hJs⟩
  ·-- an entry has come
   intro x c kl yd yp w2 cnt2 hkey hlk hv hat hrg2 hlt hg2 hs2 hen
   obtain ⟨x', ex, rfl, hx⟩ := keyOf_inv hkey
   obtain rfl : x = x' := valK_inj ex
   have hJ2 : J ss w2 := hJ ss wr w2 (some W.heap.size) hJs hg2 (fun r e => by cases e; exact ⟨Nat.le_refl _, hrg.iter_walk⟩)
   clear hs2
   have hk2 : KeepsWalks w2 (w2.alloc (.cells #[.string x.g, .string x.t, .int .i64 x.p] 74)) := KeepsWalks.alloc _ _
   have hJ3 : J ss (w2.alloc (.cells #[.string x.g, .string x.t, .int .i64 x.p] 74)) := hJ ss w2 _ none hJ2 (World.grownBy_alloc _ _ none) (fun r e => by cases e)
   obtain ⟨fn, tmps, assign, body, hy, hR⟩ := hY ss x _ hJ3 (by omega)
   unfold valK at hen hy ⊢
   gi_wp2
   refine hR.mono ?_
   rintro e W3 ⟨rfl, hJ4, hk3⟩
   gi_wp2
   have hrg3 := hrg2.of_walks (hk2.trans hk3)
   go_roundw
   case rel => exact ⟨_, cnt2, ss ++ [x], hrg3, by simp; omega, hC.step hx hlk hat, hJ4⟩
   case measure => rw [hrg3.left_eq, hrg.left_eq]; exact hlt
set_option maxHeartbeats 1000000 in
theorem keys_in (F : Fence) (n : Nat) (h7 : F.fn 95) (hro : F.round = none) (mb : Option Nat) (w : World) :
  CallsIn F n Try.prog 95 #[.map mb] w fun e w' => e = .returned (.func (.func 133) #[] #[.pointer (some ⟨w.heap.size, 0, none⟩)]) ∧ w' = w.alloc (.cells #[.map mb] 154) := by
 refine callsIn_of_wp Try.func95 rfl h7 ?_ hro
 simp only [Try.ntmps95, List.size_toArray, List.length_cons, List.length_nil, Nat.reduceAdd, Nat.reduceSub, Array.replicate_succ, Array.replicate_zero, List.push_toArray, List.append_toArray, List.nil_append, List.cons_append]
 gi_wp2
 go_ret
 exact ⟨rfl, rfl⟩
theorem keys_gives {H : Type} (F : Fence) (n : Nat) (h10 : F.fn 133) (hro : F.round = none) (hn : 1 ≤ n) (Bm b nn : Nat) (D0 : DataW H) {R : Value → Option (DataW H × List MemPlace)} (w : World) (hBm : Bm < w.heap.size)
  (hm : w.cell? ⟨Bm, 0, none⟩ = some (.map (some b))) (hown : w.ownsMap Try.prog 74 R b nn D0) :
  SeqGives F n Try.prog 133 #[.pointer (some ⟨Bm, 0, none⟩)] valK (KeysD D0) (Maps.size D0) w := fun l J W hW hJ hY h0 => by
 have hown' : W.ownsMap Try.prog 74 R b nn D0 := by
  have hbl := hown.lt
  obtain ⟨es, clock, hb, Ft, hs, hD⟩ := hown
  exact ⟨es, clock, (hW.block b hbl).trans hb, Ft, hs, hD⟩
 exact keys1N_in F n h10 hro hn l Bm b nn D0 J hY W hJ ((hW.cell (p := ⟨Bm, 0, none⟩) hBm).trans hm) hown' h0
end Go.Proofs.Ytohhlkabejangaa.Of
