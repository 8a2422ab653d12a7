import Derived.Test.YtohhlkabejangaaUOf3
import Derived.Test.YtohhlkabejangaaUSfP
-- halved
namespace Go.Proofs.Ytohhlkabejangaa.Of
set_option linter.unusedVariables false
set_option linter.unusedSimpArgs false
open Go.RowKit Go.Maps Go.Sort Go.Lib Go.Shelf Go.Proofs.YtohhlkabejangaaW.PrintWords Go.Proofs.YtohhlkabejangaaW.PrintLast Go.Proofs.YtohhlkabejangaaW.PrintMore Go.Proofs.Ytohhlkabejangaa.POf
theorem cmpLaysK (blk off size : Nat) (w : World) : CmpLays Try.prog 96 #[] encK 3 cK blk off size w := fun _ _ _ _ x y => compare_calls x y _
theorem cS_lt (a b : ByteArray) : cS a b < 0 ↔ a.toList < b.toList := by
 unfold cS
 split
 ·rename_i h
  simp [h]
 ·rename_i h
  split <;> simp [h]
theorem lt_tri (a b : List UInt8) : a < b ∨ a = b ∨ b < a := by
 by_cases h : a < b
 ·exact .inl h
 ·rcases Classical.em (a = b) with e | e
  ·exact .inr (.inl e)
  ·exact .inr (.inr (Std.lt_of_le_of_ne (List.not_lt.1 h) (fun e' => e e'.symm)))
theorem cS_zero (a b : ByteArray) : cS a b = 0 ↔ a.toList = b.toList := by
 unfold cS
 rcases lt_tri a.toList b.toList with h | h | h
 ·rw [if_pos h]
  exact ⟨fun e => (by simp at e), fun e => (List.lt_irrefl _ (e ▸ h)).elim⟩
 ·rw [h, if_neg (List.lt_irrefl _), if_neg (List.lt_irrefl _)]
  simp
 ·have h2 : ¬ a.toList < b.toList := fun h2 => List.lt_irrefl _ (List.lt_trans h h2)
  rw [if_neg h2, if_pos h]
  exact ⟨fun e => (by simp at e), fun e => (List.lt_irrefl _ (e ▸ h)).elim⟩
theorem cI_lt (a b : Int) : cI a b < 0 ↔ a < b := by
 unfold cI
 split
 ·rename_i h
  simp [h]
 ·split <;> simp <;> omega
def kLt (x y : Ky) : Prop := x.g.toList < y.g.toList ∨ (x.g.toList = y.g.toList ∧ (x.t.toList < y.t.toList ∨ (x.t.toList = y.t.toList ∧ x.p < y.p)))
theorem cK_lt (x y : Ky) : cK x y < 0 ↔ kLt x y := by
 unfold cK cO kLt
 by_cases h1 : cS x.g y.g = 0
 ·rw [if_pos h1]
  have e1 := (cS_zero _ _).1 h1
  have n1 : ¬ x.g.toList < y.g.toList := fun h => List.lt_irrefl _ (e1 ▸ h)
  by_cases h2 : cS x.t y.t = 0
  ·rw [if_pos h2]
   have e2 := (cS_zero _ _).1 h2
   have n2 : ¬ x.t.toList < y.t.toList := fun h => List.lt_irrefl _ (e2 ▸ h)
   have h3 := cI_lt x.p y.p
   by_cases h4 : cI x.p y.p = 0
   ·rw [if_pos h4]
    have : ¬ x.p < y.p := fun h => by have := h3.2 h; omega
    simp [n1, n2, this]
   ·rw [if_neg h4, h3]
    simp [e1, e2, List.lt_irrefl]
  ·rw [if_neg h2, cS_lt]
   have e2 : x.t.toList ≠ y.t.toList := fun e => h2 ((cS_zero _ _).2 e)
   simp [e1, e2, List.lt_irrefl]
 ·rw [if_neg h1, cS_lt]
  have e1 : x.g.toList ≠ y.g.toList := fun e => h1 ((cS_zero _ _).2 e)
  simp [e1]
theorem kLt_irr (x : Ky) : ¬ kLt x x := by
 rintro (h | ⟨_, h | ⟨_, h⟩⟩)
 ·exact List.lt_irrefl _ h
 ·exact List.lt_irrefl _ h
 ·omega
theorem kLt_trans {x y z : Ky} (h : kLt x y) (h2 : kLt y z) : kLt x z := by
 rcases h with h | ⟨e, h⟩ <;> rcases h2 with h2 | ⟨e2, h2⟩
 ·exact .inl (List.lt_trans h h2)
 ·exact .inl (e2 ▸ h)
 ·exact .inl (e ▸ h2)
 ·refine .inr ⟨e.trans e2, ?_⟩
  rcases h with h | ⟨d, h⟩ <;> rcases h2 with h2 | ⟨d2, h2⟩
  ·exact .inl (List.lt_trans h h2)
  ·exact .inl (d2 ▸ h)
  ·exact .inl (d ▸ h2)
  ·exact .inr ⟨d.trans d2, by omega⟩
theorem toList_inj {a b : ByteArray} (h : a.toList = b.toList) : a = b := by
 have := congrArg List.toArray h
 have h2 : a.data = b.data := by simpa [ByteArray.toList_eq] using this
 exact ByteArray.ext h2
theorem kLt_tri (x y : Ky) : kLt x y ∨ (x.g.toList = y.g.toList ∧ x.t.toList = y.t.toList ∧ x.p = y.p) ∨ kLt y x := by
 rcases lt_tri x.g.toList y.g.toList with h | e | h
 ·exact .inl (.inl h)
 ·rcases lt_tri x.t.toList y.t.toList with h | e2 | h
  ·exact .inl (.inr ⟨e, .inl h⟩)
  ·rcases Int.lt_trichotomy x.p y.p with h | e3 | h
   ·exact .inl (.inr ⟨e, .inr ⟨e2, h⟩⟩)
   ·exact .inr (.inl ⟨e, e2, e3⟩)
   ·exact .inr (.inr (.inr ⟨e.symm, .inr ⟨e2.symm, h⟩⟩))
  ·exact .inr (.inr (.inr ⟨e.symm, .inl h⟩))
 ·exact .inr (.inr (.inl h))
theorem swoK : SWO (ltOf cK) where
 irrefl x := decide_eq_false (fun h => kLt_irr x ((cK_lt x x).1 h))
 trans x y z h1 h2 := by
  have a := (cK_lt x y).1 (of_decide_eq_true h1)
  have b := (cK_lt y z).1 (of_decide_eq_true h2)
  exact decide_eq_true ((cK_lt x z).2 (kLt_trans a b))
 ntrans x y z h1 h2 := by
  have a : ¬ kLt x y := fun h => of_decide_eq_false h1 ((cK_lt x y).2 h)
  have b : ¬ kLt y z := fun h => of_decide_eq_false h2 ((cK_lt y z).2 h)
  refine decide_eq_false (fun h => ?_)
  have c := (cK_lt x z).1 h
  rcases kLt_tri x y with h | ⟨e1, e2, e3⟩ | h
  ·exact a h
  ·refine b ?_
   unfold kLt at c ⊢
   rw [← e1, ← e2, ← e3]
   exact c
  ·exact b (kLt_trans h c)
end Go.Proofs.Ytohhlkabejangaa.Of
