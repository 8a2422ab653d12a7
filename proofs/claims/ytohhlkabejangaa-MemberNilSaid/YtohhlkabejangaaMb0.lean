import Derived.Test.YtohhlkabejangaaAs15
import Derived.Test.YtohhlkabejangaaPAsx4
import Derived.Test.YtohhlkabejangaaIter
import Derived.Maps.Own
import Derived.Maps.OwnOps
import Derived.Maps.OwnSet
import Derived.Maps.Views
import Derived.Maps.RangeWalk
namespace Go.Proofs.Ytohhlkabejangaa.Mb
set_option linter.unusedVariables false
set_option linter.unusedSimpArgs false
open Go.RowKit Go.Maps Go.Proofs.YtohhlkabejangaaW.PrintWords Go.Proofs.YtohhlkabejangaaW.PrintLast Go.Proofs.YtohhlkabejangaaW.PrintMore Go.Proofs.Ytohhlkabejangaa.PAs Go.Proofs.Ytohhlkabejangaa.As
/-! Members as a list by rising names: a name (f0), and when it was heard (f1). -/
abbrev Me := S150
def kM (m : Me) : List UInt8 := m.f0.toList
def entM (m : Me) : Lit × DataW Unit := (.string (kM m), .lit (.int .i64 m.f1))
def datM (l : List Me) : DataW Unit := .map (l.map entM)
def RisM (l : List Me) : Prop := l.Pairwise (fun a b => kM a < kM b)
def putM : List Me → Me → List Me
  | [], x => [x]
  | y :: l, x => if kM x < kM y then x :: y :: l else if kM y = kM x then x :: l else y :: putM l x
def isM (l : List Me) (x : List UInt8) : Bool := l.any (fun y => decide (kM y = x))
def delM (l : List Me) (x : List UInt8) : List Me := l.filter (fun y => !decide (kM y = x))
theorem lt_irr (a : List UInt8) : ¬ a < a := List.lt_irrefl a
theorem lt_tri (a b : List UInt8) : a < b ∨ a = b ∨ b < a := by
  by_cases h : a < b
  · exact .inl h
  · rcases Classical.em (a = b) with e | e
    · exact .inr (.inl e)
    · exact .inr (.inr (Std.lt_of_le_of_ne (List.not_lt.1 h) (fun e' => e e'.symm)))
theorem filterM (l : List Me) (x : List UInt8) (h : ∀ y ∈ l, kM y ≠ x) : (l.map entM).filter (fun q => !q.1.sameKey (.string x)) = l.map entM := by
  rw [List.filter_eq_self]
  intro q hq
  obtain ⟨y, hy, rfl⟩ := List.mem_map.1 hq
  unfold entM
  rw [same_str, decide_eq_false (h y hy)]
  rfl
theorem insM_head (l : List Me) (x : Me) (h : ∀ y ∈ l, kM x < kM y) : DataW.insert (entM x) (l.map entM) = entM x :: l.map entM := by
  cases l with
  | nil => rfl
  | cons y l =>
    have h1 : (entM x).1.before (entM y).1 = true := by
      show bytesBefore (kM x) (kM y) = true
      rw [bb_lt]
      exact decide_eq_true (h y List.mem_cons_self)
    rw [List.map_cons, DataW.insert, if_pos h1]
theorem putM_eq (l : List Me) (x : Me) (h : RisM l) : (datM l).put (.string (kM x)) (.lit (.int .i64 x.f1)) = datM (putM l x) := by
  show DataW.map (DataW.insert (entM x) ((l.map entM).filter (fun q => !q.1.sameKey (.string (kM x))))) = DataW.map ((putM l x).map entM)
  congr 1
  induction l with
  | nil => rfl
  | cons y l ih =>
    obtain ⟨h1, h2⟩ := List.pairwise_cons.1 h
    unfold putM
    by_cases c1 : kM x < kM y
    · have hall : ∀ z ∈ y :: l, kM x < kM z := fun z hz => by
        rcases List.mem_cons.1 hz with rfl | hz
        · exact c1
        · exact List.lt_trans c1 (h1 z hz)
      rw [if_pos c1, filterM (y :: l) (kM x) (fun z hz e => lt_irr _ (by have := hall z hz; rwa [e] at this)), insM_head (y :: l) x hall]
      rfl
    · rw [if_neg c1]
      by_cases c2 : kM y = kM x
      · have e : (entM y).1.sameKey (.string (kM x)) = true := by
          unfold entM
          rw [same_str, decide_eq_true c2]
        have hall : ∀ z ∈ l, kM x < kM z := fun z hz => by rw [← c2]; exact h1 z hz
        rw [if_pos c2, List.map_cons, List.filter_cons_of_neg (by rw [e]; decide), filterM l (kM x) (fun z hz e => lt_irr _ (by have := hall z hz; rwa [e] at this)), insM_head l x hall]
        rfl
      · have e : (entM y).1.sameKey (.string (kM x)) = false := by
          unfold entM
          rw [same_str, decide_eq_false c2]
        have hb : (entM x).1.before (entM y).1 = false := by
          show bytesBefore (kM x) (kM y) = false
          rw [bb_lt]
          exact decide_eq_false c1
        rw [if_neg c2, List.map_cons, List.filter_cons_of_pos (by rw [e]; decide), DataW.insert, if_neg (by rw [hb]; decide), ih h2]
        rfl
theorem putM_mem (l : List Me) (x z : Me) (h : z ∈ putM l x) : z = x ∨ z ∈ l := by
  induction l with
  | nil => exact .inl (by simpa [putM] using h)
  | cons y l ih =>
    unfold putM at h
    split at h
    · rcases List.mem_cons.1 h with h | h
      · exact .inl h
      · exact .inr h
    · split at h
      · rcases List.mem_cons.1 h with h | h
        · exact .inl h
        · exact .inr (List.mem_cons_of_mem _ h)
      · rcases List.mem_cons.1 h with h | h
        · exact .inr (h ▸ List.mem_cons_self)
        · rcases ih h with h | h
          · exact .inl h
          · exact .inr (List.mem_cons_of_mem _ h)
theorem putM_ris (l : List Me) (x : Me) (h : RisM l) : RisM (putM l x) := by
  induction l with
  | nil => exact List.pairwise_singleton _ _
  | cons y l ih =>
    obtain ⟨h1, h2⟩ := List.pairwise_cons.1 h
    unfold putM
    split
    · rename_i c1
      refine List.pairwise_cons.2 ⟨fun z hz => ?_, h⟩
      rcases List.mem_cons.1 hz with rfl | hz
      · exact c1
      · exact List.lt_trans c1 (h1 z hz)
    · rename_i c1
      split
      · rename_i c2
        exact List.pairwise_cons.2 ⟨fun z hz => by rw [← c2]; exact h1 z hz, h2⟩
      · rename_i c2
        refine List.pairwise_cons.2 ⟨fun z hz => ?_, ih h2⟩
        rcases putM_mem l x z hz with rfl | hz
        · rcases lt_tri (kM y) (kM z) with h3 | h3 | h3
          · exact h3
          · exact (c2 h3).elim
          · exact (c1 h3).elim
        · exact h1 z hz
theorem putM_len (l : List Me) (x : Me) (h : RisM l) : (putM l x).length = if isM l (kM x) = true then l.length else l.length + 1 := by
  induction l with
  | nil => rfl
  | cons y l ih =>
    obtain ⟨h1, h2⟩ := List.pairwise_cons.1 h
    unfold putM isM
    rw [List.any_cons]
    by_cases c1 : kM x < kM y
    · have hno : (decide (kM y = kM x) || l.any (fun y => decide (kM y = kM x))) = false := by
        rw [Bool.or_eq_false_iff, decide_eq_false_iff_not, List.any_eq_false]
        refine ⟨fun e => lt_irr _ (by rwa [e] at c1), fun z hz hd => ?_⟩
        have := List.lt_trans c1 (h1 z hz)
        rw [of_decide_eq_true hd] at this
        exact lt_irr _ this
      rw [if_pos c1, hno, if_neg (by decide)]
      rfl
    · rw [if_neg c1]
      by_cases c2 : kM y = kM x
      · rw [if_pos c2, decide_eq_true c2, Bool.true_or, if_pos rfl]
        rfl
      · rw [if_neg c2, decide_eq_false c2, Bool.false_or, List.length_cons, ih h2]
        unfold isM
        split <;> rfl
theorem hasM (l : List Me) (x : List UInt8) : Maps.has (datM l) (.string x) = isM l x := by
  show (l.map entM).any (fun q => q.1.sameKey (.string x)) = _
  rw [List.any_map]
  unfold isM
  congr 1
  funext y
  exact same_str _ _
theorem sizeM (l : List Me) : Maps.size (datM l) = l.length := List.length_map _
theorem delM_eq (l : List Me) (x : List UInt8) : (datM l).del (.string x) = datM (delM l x) := by
  show DataW.map ((l.map entM).filter (fun q => !q.1.sameKey (.string x))) = DataW.map ((delM l x).map entM)
  congr 1
  unfold delM
  rw [List.filter_map]
  congr 1
  apply List.filter_congr
  intro y _
  show (!(Lit.string (kM y)).sameKey (.string x)) = _
  rw [same_str]
theorem ris_filter {l : List Me} (h : RisM l) (p : Me → Bool) : RisM (l.filter p) := List.Pairwise.filter p h
theorem ris_uniq {l : List Me} (h : RisM l) {x y : Me} (hx : x ∈ l) (hy : y ∈ l) (e : kM x = kM y) : x = y := by
  obtain ⟨i, hi, rfl⟩ := List.getElem_of_mem hx
  obtain ⟨j, hj, rfl⟩ := List.getElem_of_mem hy
  have h' := List.pairwise_iff_getElem.1 h
  rcases Nat.lt_trichotomy i j with h1 | h1 | h1
  · have := h' i j hi hj h1
    rw [e] at this
    exact (lt_irr _ this).elim
  · subst h1; rfl
  · have := h' j i hj hi h1
    rw [e] at this
    exact (lt_irr _ this).elim
theorem atM (l : List Me) (h : RisM l) (y : Me) (hy : y ∈ l) (zd : DataW Unit) : (datM l).atKey (.string (kM y)) zd = .lit (.int .i64 y.f1) := by
  have key : ∀ (l : List Me), y ∈ l → (∀ z ∈ l, kM z = kM y → z = y) → ((l.map entM).find? (fun q => q.1.sameKey (.string (kM y)))).map (·.2) = some (.lit (.int .i64 y.f1)) := by
    intro l
    induction l with
    | nil => intro h; cases h
    | cons z l ih =>
      intro hy hu
      rw [List.map_cons, List.find?_cons]
      have e : (entM z).1.sameKey (.string (kM y)) = decide (kM z = kM y) := same_str _ _
      rw [e]
      by_cases c : kM z = kM y
      · rw [decide_eq_true c]
        rw [hu z List.mem_cons_self c]
        rfl
      · rw [decide_eq_false c]
        rcases List.mem_cons.1 hy with rfl | hy
        · exact (c rfl).elim
        · exact ih hy (fun w hw => hu w (List.mem_cons_of_mem _ hw))
  have := key l hy (fun z hz e => ris_uniq h hz hy e)
  unfold datM DataW.atKey
  first
  | (simp only []; cases hf : (l.map entM).find? (fun q => q.1.sameKey (.string (kM y))) with
    | none => rw [hf] at this; cases this
    | some q => rw [hf] at this; simpa using this)
/-- one who goes makes one fewer -/
theorem drop_one (l : List Me) (h : RisM l) (p : Me → Bool) (y : Me) (hy : y ∈ l) (hp : p y = true) : (l.filter p).length = (l.filter (fun z => p z && !decide (kM z = kM y))).length + 1 := by
  induction l with
  | nil => cases hy
  | cons z l ih =>
    obtain ⟨h1, h2⟩ := List.pairwise_cons.1 h
    by_cases e : z = y
    · subst e
      have hrest : l.filter (fun w => p w && !decide (kM w = kM z)) = l.filter p := by
        apply List.filter_congr
        intro w hw
        have : kM w ≠ kM z := fun e => lt_irr _ (by have := h1 w hw; rwa [e] at this)
        rw [decide_eq_false this]
        simp
      rw [List.filter_cons_of_pos hp, List.filter_cons_of_neg (by simp), hrest]
      rfl
    · rcases List.mem_cons.1 hy with he | hy
      · exact (e he.symm).elim
      · have hk : kM z ≠ kM y := fun e => lt_irr _ (by have := h1 y hy; rwa [e] at this)
        have ih := ih h2 hy
        by_cases hz : p z = true
        · rw [List.filter_cons_of_pos hz, List.filter_cons_of_pos (by simp [hz, hk]), List.length_cons, List.length_cons, ih]
        · rw [List.filter_cons_of_neg hz, List.filter_cons_of_neg (by simp [hz]), ih]
/-! ### letting those go who are out -/
def keepM (wt sl : Int) (l : List Me) : List Me := l.filter (fun y => decide (sl - y.f1 ≤ wt))
/-- while the range is under way: those who stay, and those who are still to come -/
def midM (wt sl : Int) (left : Lit → Bool) (l : List Me) : List Me := l.filter (fun y => decide (sl - y.f1 ≤ wt) || left (.string (kM y)))
theorem mid_start (wt sl : Int) (l : List Me) : midM wt sl (Maps.has (datM l)) l = l := by
  unfold midM
  rw [List.filter_eq_self]
  intro y hy
  rw [hasM]
  have : isM l (kM y) = true := List.any_eq_true.2 ⟨y, hy, decide_eq_true rfl⟩
  rw [this, Bool.or_true]
theorem mid_end (wt sl : Int) (l : List Me) (left : Lit → Bool) (h : ∀ k, left k = false) : midM wt sl left l = keepM wt sl l := by
  unfold midM keepM
  apply List.filter_congr
  intro y _
  rw [h, Bool.or_false]
theorem mid_find (wt sl : Int) (l : List Me) (h : RisM l) (left : Lit → Bool) (x : List UInt8) (c : Int) (hl : left (.string x) = true) (hat : ∀ zd, (datM (midM wt sl left l)).atKey (.string x) zd = .lit (.int .i64 c)) : ∃ y ∈ l, kM y = x ∧ y.f1 = c := by
  have hh : Maps.has (datM (midM wt sl left l)) (.string x) = true := has_true_of_atKey hat
  rw [hasM] at hh
  obtain ⟨y, hy, e⟩ := List.any_eq_true.1 hh
  have e := of_decide_eq_true e
  have h2 : (datM (midM wt sl left l)).atKey (.string (kM y)) .nil = .lit (.int .i64 y.f1) := atM _ (ris_filter h _) y hy .nil
  rw [e, hat .nil] at h2
  refine ⟨y, (List.mem_filter.1 hy).1, e, ?_⟩
  simpa using h2.symm
theorem mid_stays (wt sl : Int) (l : List Me) (h : RisM l) (left : Lit → Bool) (y : Me) (hy : y ∈ l) (hk : sl - y.f1 ≤ wt) : midM wt sl (fun z => left z && !z.sameKey (.string (kM y))) l = midM wt sl left l := by
  unfold midM
  apply List.filter_congr
  intro z hz
  by_cases e : kM z = kM y
  · have : z = y := ris_uniq h hz hy e
    subst this
    rw [decide_eq_true hk, Bool.true_or, Bool.true_or]
  · simp only [same_str, decide_eq_false e]
    simp
theorem mid_struck (wt sl : Int) (l : List Me) (h : RisM l) (left : Lit → Bool) (y : Me) (hy : y ∈ l) (hk : ¬ sl - y.f1 ≤ wt) (hl : left (.string (kM y)) = true) :
    (datM (midM wt sl left l)).del (.string (kM y)) = datM (midM wt sl (fun z => left z && !z.sameKey (.string (kM y))) l) ∧ (midM wt sl left l).length = (midM wt sl (fun z => left z && !z.sameKey (.string (kM y))) l).length + 1 := by
  have e : midM wt sl (fun z => left z && !z.sameKey (.string (kM y))) l = l.filter (fun z => (decide (sl - z.f1 ≤ wt) || left (.string (kM z))) && !decide (kM z = kM y)) := by
    unfold midM
    apply List.filter_congr
    intro z hz
    by_cases e : kM z = kM y
    · have : z = y := ris_uniq h hz hy e
      subst this
      simp only [same_str, decide_eq_true rfl, decide_eq_false hk]
      simp
    · simp only [same_str, decide_eq_false e]
      simp
  constructor
  · rw [delM_eq, e]
    unfold delM midM
    rw [List.filter_filter]
    congr 1
    apply List.filter_congr
    intro z _
    rw [Bool.and_comm]
  · rw [e]
    unfold midM
    exact drop_one l h _ y hy (by rw [hl, Bool.or_true])
end Go.Proofs.Ytohhlkabejangaa.Mb
