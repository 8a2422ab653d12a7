import Derived.Test.YtohhlkabejangaaUOf10
-- halved
namespace Go.Proofs.Ytohhlkabejangaa.Of
set_option linter.unusedVariables false
set_option linter.unusedSimpArgs false
open Go.RowKit Go.Maps Go.Sort Go.Lib Go.Shelf Go.Proofs.YtohhlkabejangaaW.PrintWords Go.Proofs.YtohhlkabejangaaW.PrintLast Go.Proofs.YtohhlkabejangaaW.PrintMore Go.Proofs.Ytohhlkabejangaa.POf Go.Proofs.Ytohhlkabejangaa.Wire
open Go.Proofs.YtohhlkabejangaaW.PrintWords.Aside0 renaming mk → mkA
open Go.Proofs.YtohhlkabejangaaW.PrintWords renaming below_step → zbS
abbrev Own (W : World) (b n : Nat) (D : DataW Unit) : Prop := W.ownsMap Try.prog 74 (plainElem (H := Unit) Try.prog 3) b n D
abbrev Rg (W : World) (b r n : Nat) (D : DataW Unit) (left : Lit → Bool) (cnt : Nat) : Prop := W.ranges Try.prog 74 (plainElem (H := Unit) Try.prog 3) b r n D left cnt
structure Tab (W : World) (a b : Nat) (T : List Rw) : Prop where
 cell : W.heap[a]? = some (.cells #[.map (some b)] 156 (0, 0))
 own : ∃ n D, Own W b n D ∧ Rep D T
theorem Tab.lt {W : World} {a b : Nat} {T : List Rw} (h : Tab W a b T) : a < W.heap.size := (Array.getElem?_eq_some_iff.1 h.cell).1
theorem Tab.lb {W : World} {a b : Nat} {T : List Rw} (h : Tab W a b T) : b < W.heap.size := by
 obtain ⟨n, D, h1, _⟩ := h.own
 exact h1.lt
theorem Tab.ne {W : World} {a b : Nat} {T : List Rw} (h : Tab W a b T) : a ≠ b := by
 intro e
 obtain ⟨n, D, ⟨es, clock, hb, _⟩, _⟩ := h.own
 have := h.cell
 rw [e, hb] at this
 cases this
theorem Tab.later {W W' : World} {a b : Nat} {T : List Rw} (h : Tab W a b T) (k : Below W.heap.size W W') : Tab W' a b T := by
 obtain ⟨n, D, h1, h2⟩ := h.own
 exact ⟨(k.block a h.lt).trans h.cell, n, D, h1.kept (row := none) ⟨k.os, k.tape, k.output, k.size, fun i hi _ => k.block i hi⟩ (by simp), h2⟩
theorem Tab.c {W : World} {a b : Nat} {T : List Rw} (h : Tab W a b T) : W.cell? ⟨a, 0, none⟩ = some (.map (some b)) := (blk_cell h.cell 0).trans rfl
def grpT (T : List Rw) : Int := (grpK (T.map (·.k))).1
def roomB (T : List Rw) (g : ByteArray) : Bool := T.any (fun r => decide (r.k.g = g)) || decide (grpT T < 8)
theorem keys_tab (a b : Nat) (T : List Rw) (w : World) (h : Tab w a b T) (hn : T.length ≤ 1000000) :
  Calls Try.prog 47 #[.pointer (some ⟨a, 0, none⟩)] w fun e w' => ∃ A c, e = .returned (.slice A (T.map (·.k)).length c) ∧ RowK w' A (T.map (·.k)) ∧ Below w.heap.size w w' := by
 obtain ⟨n, D, ho, hr⟩ := h.own
 refine (Keys_calls a b n D w h.c ho (by rw [hr.size]; unfold maxLen; omega) (by rw [hr.size]; omega)).mono ?_
 rintro e w' ⟨v, ys, rfl, hk, hy, hrow, _, hb⟩
 obtain rfl := keys_eq hr hk hy
 obtain ⟨A, c, rfl, hR⟩ := rowK_of hrow
 exact ⟨A, c, rfl, hR, hb⟩
theorem groups_tab (a b : Nat) (T : List Rw) (w : World) (h : Tab w a b T) (hn : T.length ≤ 1000000) :
  Calls Try.prog 56 #[.pointer (some ⟨a, 0, none⟩)] w fun e w' => e = .returned (.int .i64 (grpT T)) ∧ Below w.heap.size w w' :=
 groups_core _ (T.map (·.k)) (by rw [List.length_map]; exact hn) w (keys_tab a b T w h hn)
set_option maxHeartbeats 16000000 in
set_option maxRecDepth 100000 in
theorem room_tab (a b : Nat) (T : List Rw) (gr : ByteArray) (w : World) (h : Tab w a b T) (hn : T.length ≤ 1000000) :
  Calls Try.prog 98 #[.pointer (some ⟨a, 0, none⟩), .string gr] w fun e w' => e = .returned (.bool (roomB T gr)) ∧ Below w.heap.size w w' := by
 have hund : ∀ b, some undef = some (Value.bool b) → False := fun b h => by simp [undef] at h
 obtain ⟨n, D, ho, hr⟩ := h.own
 have HO := mkA ho
 have HR := mkA hr
 have HN := mkA hn
 have HT := mkA h
 have hc := h.c
 clear ho hr hn h
 go_enter Try.func98, Try.ntmps98
 go_wp2_with (first
  | (at_range; refine wpList_range_own _ rfl _ 154 rfl 74 3 keyed Try.underlying154 (plainElem (H := Unit) Try.prog 3) b n D rfl HO.out ?_; intro w2 hrg hgr hsz; have HRG := mkA (show Rg w2 b w.heap.size n D (Maps.has D) (Maps.size D) from hrg); have HB := mkA (show Below w.heap.size w w2 from ⟨hgr.os, hgr.tape, hgr.output, hgr.size, fun i hi => hgr.block i hi (by simp)⟩); clear hrg hgr hsz))
 go_frame
 show Code.wp _ _ _ _ _
 go_loopw [] (fun wr => ∃ (left : Lit → Bool) (cnt : Nat), Aside0 (∀ r ∈ T, left (litK r.k) = false → r.k.g ≠ gr) ∧ Aside0 (Rg wr b w.heap.size n D left cnt) ∧ Aside0 (Below w.heap.size w wr)) (fun wr => wr.rangeLeft b w.heap.size)
 case atStart => exact ⟨_, _, ⟨fun r hr hl => by have := (HR.out.has r.k (HR.out.ok r hr)).2 ⟨r, hr, rfl⟩; rw [hl] at this; cases this⟩, HRG, HB⟩
 case round =>
  clear HRG HB hc
  obtain ⟨left, cnt, HL, HRG, HB⟩ := hrel
  go_wp2_with (first
   | (at_next; refine wpList_next_ranges _ rfl _ rfl 74 keyed (plainElem (H := Unit) Try.prog 3) valK id (fun key kl hk => by obtain ⟨x, hx, _⟩ := keyOf_inv hk; exact ⟨x, hx⟩) (fun v _ _ => ⟨v, rfl⟩) b w.heap.size n _ _ _ rfl HRG.out ?_ ?_))
  ·intro hc0 hl0
   have HNO := mkA (show T.any (fun r => decide (r.k.g = gr)) = false by
    rw [List.any_eq_false]
    intro r hr
    simpa using HL.out r hr (hl0 _))
   have HT2 := mkA (HT.out.later HB.out)
   have HGR := mkA (groups_tab a b T wr HT2.out HN.out)
   have HE := mkA (show roomB T gr = decide (grpT T < 8) by unfold roomB; rw [HNO.out, Bool.false_or])
   clear hl0 hc0 HRG HL HNO HT HR HO
   go_wp2_with (first
    | (go_at_call 56; refine HGR.out.mono ?_; rintro e w5 ⟨rfl, hb⟩; have HB5 := mkA (zbS HB.out hb); clear hb))
   go_ret
   exact ⟨by rw [HE.out]; rfl, HB5.out⟩
  ·intro x c kl y0 ps w3 cnt1 hkey hlk hRy hat hrg1 hlt hg3 hs3 hen
   obtain ⟨x', ex, rfl, hx⟩ := keyOf_inv hkey
   obtain rfl : x = x' := valK_inj ex
   obtain ⟨r0, hr0, hrk⟩ := (HR.out.has x hx).1 (has_true_of_atKey hat)
   have HR0 := mkA hr0
   have HRK := mkA hrk
   have HX := mkA hx
   have HRG1 := mkA (show Rg w3 b w.heap.size n D (fun z => left z && !z.sameKey (litK x)) cnt1 from hrg1)
   have n_B := mkA (show Below w.heap.size w w3 from ⟨hg3.os.trans HB.out.os, hg3.tape.trans HB.out.tape, hg3.output.trans HB.out.output, Nat.le_trans HB.out.size hg3.size, fun i hi => (hg3.block i (Nat.lt_of_lt_of_le hi HB.out.size) (fun e => by have := Option.some.inj e; omega)).trans (HB.out.block i hi)⟩)
   have HLE := mkA (show wr.rangeLeft b w.heap.size = _ from HRG.out.left_eq)
   have HLTC := mkA hlt
   clear hlt hlk hkey hrg1 hat hRy HRG ex hg3 hs3 HB hr0 hrk hx
   have HB := n_B
   clear n_B
   have HXX := mkA (Below.refl w3.heap.size w3)
   obtain ⟨x0, x1, x2⟩ := x
   unfold valK at hen
   by_cases hc : x0 = gr
   ·have e1 : (x0.toList == gr.toList) = true := by rw [ne_lists]; exact decide_eq_true hc
    have HE := mkA (show roomB T gr = true by unfold roomB; rw [List.any_eq_true.2 ⟨r0, HR0.out, by rw [HRK.out]; exact decide_eq_true hc⟩, Bool.true_or])
    clear hc
    go_wp2_with fail
    go_ret
    exact ⟨by rw [HE.out]; rfl, below_alloc HB.out _⟩
   ·have e1 : (x0.toList == gr.toList) = false := by rw [ne_lists]; exact decide_eq_false hc
    have HL2 := mkA (show ∀ r ∈ T, (left (litK r.k) && !(litK r.k).sameKey (litK ⟨x0, x1, x2⟩)) = false → r.k.g ≠ gr from fun r hr hl => by
     by_cases hk : r.k = ⟨x0, x1, x2⟩
     ·rw [hk]; exact hc
     ·refine HL.out r hr ?_
      have hne : (litK r.k).sameKey (litK ⟨x0, x1, x2⟩) = false := by
       cases hs : (litK r.k).sameKey (litK ⟨x0, x1, x2⟩)
       ·rfl
       ·exact (hk (litK_inj (HR.out.ok r hr) HX.out (WideAt.sameKey_eq hs))).elim
      simpa [hne] using hl)
    clear hc
    go_wp2_with fail
    have HRG3 := mkA (show Rg (w3.alloc (.cells #[.string x0, .string x1, .int .i64 x2] 74)) b w.heap.size n D (fun z => left z && !z.sameKey (litK ⟨x0, x1, x2⟩)) cnt1 from HRG1.out.of_walks (KeepsWalks.alloc _ _))
    have HB3 := mkA (show Below w.heap.size w (w3.alloc (.cells #[.string x0, .string x1, .int .i64 x2] 74)) from below_alloc HB.out _)
    go_roundw
    case rel => exact ⟨_, cnt1, HL2, HRG3, HB3⟩
    case measure => rw [HRG3.out.left_eq, HLE.out]; exact HLTC.out
end Go.Proofs.Ytohhlkabejangaa.Of
