import Derived.Test.YtlgihjhlkpmpnaaQWireL2
-- halved
namespace Go.Proofs.Ytlgihjhlkpmpnaa.Wire
set_option linter.unusedVariables false
set_option linter.unusedSimpArgs false
open Go.RowKit Go.Proofs.YtlgihjhlkpmpnaaW.PrintWords Go.Proofs.YtlgihjhlkpmpnaaW.PrintLast Go.Proofs.YtlgihjhlkpmpnaaW.PrintMore Go.Proofs.Ytlgihjhlkpmpnaa.Hand Go.Proofs.Ytlgihjhlkpmpnaa.PWire Go.Proofs.Ytlgihjhlkpmpnaa.PureNums

/-- two readers tell the same -/
def Rel (a b : Rd) : Prop := a.2 = b.2 ∧ (a.2 = false → a.1 = b.1)
theorem Rel.refl (a : Rd) : Rel a a := ⟨rfl, fun _ => rfl⟩
theorem rel_cases {a b : Rd} (h : Rel a b) : (a.2 = true ∧ b.2 = true) ∨ (a = b ∧ a.2 = false) := by
 obtain ⟨h1, h2⟩ := h
 cases e : a.2 with
 | true => exact .inl ⟨rfl, by rw [← h1, e]⟩
 | false => exact .inr ⟨by
   obtain ⟨a1, a2⟩ := a
   obtain ⟨b1, b2⟩ := b
   simp only at h1 h2 e
   rw [h1, h2 e], rfl⟩
theorem rdNum_bad {a : Rd} (h : a.2 = true) : rdNum a = (0, a.1, true) := by unfold rdNum; rw [if_pos h]
theorem qNum_bad {a : Rd} (h : a.2 = true) : qNum a = (0, ⟨#[]⟩, true) := by unfold qNum; rw [if_pos h]
theorem rdText_bad {a : Rd} (h : a.2 = true) : rdText a = (⟨#[]⟩, a.1, true) := by unfold rdText; rw [if_pos h]
theorem qText_bad {a : Rd} (h : a.2 = true) : qText a = (⟨#[]⟩, ⟨#[]⟩, true) := by unfold qText; rw [if_pos h]
theorem num_rel {a b : Rd} (h : Rel a b) : (rdNum a).1 = (qNum b).1 ∧ Rel (rdNum a).2 (qNum b).2 := by
 rcases rel_cases h with ⟨h1, h2⟩ | ⟨rfl, h1⟩
 ·rw [rdNum_bad h1, qNum_bad h2]
  exact ⟨rfl, rfl, fun e => by simp at e⟩
 ·unfold rdNum qNum
  rw [h1]
  simp only [Bool.false_eq_true, if_false]
  split
  ·split
   ·exact ⟨rfl, rfl, fun e => by simp at e⟩
   ·exact ⟨rfl, rfl, fun _ => rfl⟩
  ·exact ⟨rfl, rfl, fun e => by simp at e⟩
theorem text_rel {a b : Rd} (h : Rel a b) : (rdText a).1 = (qText b).1 ∧ Rel (rdText a).2 (qText b).2 := by
 rcases rel_cases h with ⟨h1, h2⟩ | ⟨rfl, h1⟩
 ·rw [rdText_bad h1, qText_bad h2]
  exact ⟨rfl, rfl, fun e => by simp at e⟩
 ·unfold rdText qText
  rw [h1]
  simp only [Bool.false_eq_true, if_false]
  split
  ·exact ⟨rfl, rfl, fun _ => rfl⟩
  ·exact ⟨rfl, rfl, fun e => by simp at e⟩
theorem flag_bad {a : Rd} (h : a.2 = true) : (rdFlag a).2.2 = true := by unfold rdFlag; rw [rdNum_bad h]; rfl
theorem text_bad {a : Rd} (h : a.2 = true) : (rdText a).2.2 = true := by rw [rdText_bad h]
theorem pair_bad {a : Rd} (h : (rdFlag a).2.2 = true) : (rdPair a).2.2 = true := by unfold rdPair; exact text_bad (text_bad h)
theorem pairN_bad : ∀ (n : Nat) (l : List S102) (a : Rd), a.2 = true → (rdPairN n l a).2.2 = true
 | 0, _, _, h => h
 | n + 1, l, a, h => pairN_bad n _ _ (pair_bad (flag_bad h))
theorem flag_rel {a b : Rd} (h : Rel a b) : (rdFlag a).1 = ((qNum b).1 == 1) ∧ ((qNum b).1 > 1 → (rdFlag a).2.2 = true) ∧ (¬ (qNum b).1 > 1 → Rel (rdFlag a).2 (qNum b).2) := by
 obtain ⟨h1, h2⟩ := num_rel h
 unfold rdFlag
 refine ⟨by rw [h1], fun hv => by simp only; rw [h1, decide_eq_true hv]; simp, fun hv => ?_⟩
 simp only
 rw [h1, decide_eq_false hv, Bool.or_false]
 exact h2
theorem pairN_rel : ∀ (n : Nat) (l : List S102) (a b : Rd), Rel a b → (rdPairN n l a).2.2 = (qPairN n l b).2.2 ∧ ((rdPairN n l a).2.2 = false → rdPairN n l a = qPairN n l b) := by
 intro n
 induction n with
 | zero =>
  intro l a b h
  rcases rel_cases h with ⟨h1, h2⟩ | ⟨rfl, h1⟩
  ·exact ⟨by show a.2 = b.2; rw [h1, h2], fun e => by rw [show (rdPairN 0 l a).2.2 = a.2 from rfl, h1] at e; simp at e⟩
  ·exact ⟨rfl, fun _ => rfl⟩
 | succ n ih =>
  intro l a b h
  obtain ⟨f1, f2, f3⟩ := flag_rel h
  rw [rdPairN, qPairN]
  by_cases hv : (qNum b).1 > 1
  ·rw [if_pos hv]
   have := pairN_bad n (l ++ [(rdPair a).1]) _ (pair_bad (f2 hv))
   exact ⟨this, fun e => by rw [this] at e; simp at e⟩
  ·rw [if_neg hv]
   have r1 := f3 hv
   obtain ⟨t1, r2⟩ := text_rel r1
   obtain ⟨t2, r3⟩ := text_rel r2
   have e1 : (rdPair a).1 = ⟨(qText (qNum b).2).1, (qText (qText (qNum b).2).2).1, (qNum b).1 == 1⟩ := by
    unfold rdPair
    simp only
    rw [t1, t2, f1]
   rw [e1]
   exact ih _ _ _ r3
/-- Decode's last word -/
def finD (n : Int) (t : Rst) : DecR := if t.r.2 = true then ⟨38, 0, rq0 0 0, []⟩ else if t.r.1.toList ≠ [] then ⟨38, 0, rq0 0 0, []⟩ else if mayB t.y t.ps = true then ⟨0, n, t.y, t.ps⟩ else ⟨38, 0, rq0 0 0, []⟩
theorem finD_rel {n : Int} {t t' : Rst} (hr : Rel t.r t'.r) (h : t.r.2 = false → t.y = t'.y ∧ t.ps = t'.ps) : finD n t = finD n t' := by
 obtain ⟨y, ps, r⟩ := t
 obtain ⟨y', ps', r'⟩ := t'
 simp only at hr h
 rcases rel_cases hr with ⟨h1, h2⟩ | ⟨rfl, h1⟩
 ·unfold finD
  simp only
  rw [if_pos h1, if_pos h2]
 ·obtain ⟨rfl, rfl⟩ := h h1
  rfl
theorem step76 (t : Rst) : reqStep t 76 = ⟨{t.y with label := (rdNum t.r).1}, t.ps, (rdNum t.r).2⟩ := rfl
theorem step80 (t : Rst) : reqStep t 80 = ⟨{t.y with pp := (rdNum t.r).1}, t.ps, (rdNum t.r).2⟩ := rfl
theorem step79 (t : Rst) : reqStep t 79 = ⟨{t.y with off := (rdNum t.r).1}, t.ps, (rdNum t.r).2⟩ := rfl
theorem step77 (t : Rst) : reqStep t 77 = ⟨{t.y with most := (rdNum t.r).1}, t.ps, (rdNum t.r).2⟩ := rfl
theorem step69 (t : Rst) : reqStep t 69 = ⟨{t.y with gen := (rdNum t.r).1}, t.ps, (rdNum t.r).2⟩ := rfl
theorem step82 (t : Rst) : reqStep t 82 = ⟨{t.y with prod := (rdNum t.r).1}, t.ps, (rdNum t.r).2⟩ := rfl
theorem step83 (t : Rst) : reqStep t 83 = ⟨{t.y with seq := (rdNum t.r).1}, t.ps, (rdNum t.r).2⟩ := rfl
theorem step112 (t : Rst) : reqStep t 112 = ⟨{t.y with tp := (rdNum t.r).1}, t.ps, (rdNum t.r).2⟩ := rfl
theorem step84 (t : Rst) : reqStep t 84 = ⟨{t.y with pt := (rdText t.r).1}, t.ps, (rdText t.r).2⟩ := rfl
theorem step71 (t : Rst) : reqStep t 71 = ⟨{t.y with grp := (rdText t.r).1}, t.ps, (rdText t.r).2⟩ := rfl
theorem step78 (t : Rst) : reqStep t 78 = ⟨{t.y with mem := (rdText t.r).1}, t.ps, (rdText t.r).2⟩ := rfl
theorem step116 (t : Rst) : reqStep t 116 = ⟨{t.y with tt := (rdText t.r).1}, t.ps, (rdText t.r).2⟩ := rfl
theorem step66 (t : Rst) : reqStep t 66 = ⟨t.y, (rdPairs t.r).1, (rdPairs t.r).2⟩ := rfl
theorem step67 (t : Rst) : reqStep t 67 = ⟨{t.y with sn := (rdSpec t.r).1.n, sp := (rdSpec t.r).1.p, sa := (rdSpec t.r).1.a, ss := (rdSpec t.r).1.z, sc := (rdSpec t.r).1.c}, t.ps, (rdSpec t.r).2⟩ := rfl
end Go.Proofs.Ytlgihjhlkpmpnaa.Wire
