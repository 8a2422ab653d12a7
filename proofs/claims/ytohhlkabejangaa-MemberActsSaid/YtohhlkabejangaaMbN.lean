import Derived.Test.YtohhlkabejangaaPAsx4
import Derived.Test.YtohhlkabejangaaAsN
import Derived.Test.YtohhlkabejangaaIter
import Derived.Maps.Own
import Derived.Maps.OwnOps
import Derived.Maps.OwnSet
import Derived.Maps.Views
import Derived.Maps.RangeWalk
import Derived.Deep.Slices
namespace Go.Proofs.Ytohhlkabejangaa.Wire
set_option linter.unusedVariables false
set_option linter.unusedSimpArgs false
open Go.RowKit Go.Proofs.YtohhlkabejangaaW.PrintWords Go.Proofs.YtohhlkabejangaaW.PrintLast Go.Proofs.YtohhlkabejangaaW.PrintMore
/-! A struct by value in a block of its own: boxed, loaded whole, stored whole, a field stored: the world stays a letter. -/
section
variable {P : Program} {ops : Array Oper} {rest : List Oper} {o : Oper} {a : Act} {Q : Exit → Act → World → Prop} {W : World}
theorem below_put {B : Nat} {w W W' : World} {g : Nat} (h : Below B w W) (hB : B ≤ g) (hg : W.grownBy W' (some g)) (hW : B ≤ W.heap.size) : Below B w W' :=
  ⟨hg.os.trans h.os, hg.tape.trans h.tape, hg.output.trans h.output, Nat.le_trans h.size hg.size, fun i hi => (hg.block i (Nat.lt_of_lt_of_le hi hW) (fun e => by have := Option.some.inj e; omega)).trans (h.block i hi)⟩
theorem grown_setRow (W : World) (g : Nat) (cs : Array Value) : W.grownBy (W.setRow g cs) (some g) :=
  ⟨rfl, rfl, rfl, by simp, fun i _ hne => setRow_other W g i cs (fun e => hne (by rw [e]))⟩
theorem grown_setCell (W : World) (g i : Nat) (u : Value) : W.grownBy (W.setCell ⟨g, i, none⟩ u) (some g) :=
  ⟨rfl, rfl, rfl, by simp [World.setCell], fun k _ hne => Below.heap_setCell W _ u k (fun e => hne (by rw [e]))⟩
theorem grown_at {W W' : World} {g b : Nat} {ob : Obj} (hg : W.grownBy W' (some g)) (h : W.heap[b]? = some ob) (hne : b ≠ g) : W'.heap[b]? = some ob :=
  (hg.block b (blk_lt h) (fun e => hne (Option.some.inj e))).trans h
theorem load_ev {N : Tmp} (hN : o.dst = some N) (hgd : o.guard = none) {ty : TypeId} {p : Tmp} (ho : o.op = .load ty (.tmp p)) {g : Nat} (hx : a.eval (.tmp p) = .pointer (some ⟨g, 0, none⟩)) {t : TypeId} {cs : Array Value} {d : TypeDesc} (hg : W.heap[g]? = some (.cells cs t (0, 0)))
    (hu : P.underlying ty = some d) (hd : (match d with | .struct _ | .array _ _ => true | _ => false) = true) (hi : (P.info? ty).map (·.size) = some cs.size)
    (h : wpList P ops Q rest (a.put o.dst (.agg cs)) W) : wpList P ops Q (o :: rest) a W := wpList_load_row hgd ty (.tmp p) ho g hx t cs (0, 0) d hg hu hd hi h
theorem store_ev (hgd : o.guard = none) (hN : o.dst = none) {ty : TypeId} {p : Tmp} {q : Operand} (ho : o.op = .store ty (.tmp p) q) {g : Nat} {cells : Array Value} (hx : a.eval (.tmp p) = .pointer (some ⟨g, 0, none⟩)) (hy : a.eval q = .agg cells)
    {t : TypeId} {old : Array Value} (hg : W.heap[g]? = some (.cells old t (0, 0))) (hi : (P.info? ty).map (·.size) = some cells.size) (hold : old.size = cells.size) (h1 : cells.all (·.oneCell') = true)
    (h : ∀ W', W'.heap[g]? = some (.cells cells t (0, 0)) → W.grownBy W' (some g) → wpList P ops Q rest a W') : wpList P ops Q (o :: rest) a W :=
  wpList_store_row hgd ty (.tmp p) q ho g cells hx hy t old hg hi hold h1 (by rw [hN]; exact h _ (setRow_heap W g old cells t (0, 0) hg) (grown_setRow W g cells))
theorem fstore_ev (hgd : o.guard = none) (hN : o.dst = none) {ty : TypeId} {p : Tmp} {q : Operand} (_ho : o.op = .store ty (.tmp p) q) {g j : Nat} {u : Value} {t : TypeId} {old : Array Value} (hg : W.heap[g]? = some (.cells old t (0, 0)))
    (hrun : (execOp a.eval o).run P W = .ok .skip (W.setCell ⟨g, j, none⟩ u))
    (h : ∀ W', W'.heap[g]? = some (.cells (old.setIfInBounds j u) t (0, 0)) → W.grownBy W' (some g) → wpList P ops Q rest a W') : wpList P ops Q (o :: rest) a W :=
  store_event hgd _ho hN hrun (fun w' e => by subst e; exact h _ (blk_set hg j u) (grown_setCell W g j u))
end
end Go.Proofs.Ytohhlkabejangaa.Wire

namespace Go.Proofs.Ytohhlkabejangaa.Mb
set_option linter.unusedVariables false
set_option linter.unusedSimpArgs false
open Go.RowKit Go.Maps Go.Proofs.YtohhlkabejangaaW.PrintWords Go.Proofs.YtohhlkabejangaaW.PrintLast Go.Proofs.YtohhlkabejangaaW.PrintMore Go.Proofs.Ytohhlkabejangaa.PAs Go.Proofs.Ytohhlkabejangaa.As
/-! Members as a list by rising names: a name (f0), and when it was heard (f1). -/
abbrev Me := S150
def kM (m : Me) : List UInt8 := m.f0.toList
def entM (m : Me) : Lit × DataW Unit := (.string (kM m), .lit (.int .i64 m.f1))
def datM (l : List Me) : DataW Unit := .map (l.map entM)
def RisM (l : List Me) : Prop := l.Pairwise (fun a b => kM a < kM b)
def putM : List Me → Me → List Me
  | [], x => [x]
  | y :: l, x => if kM x < kM y then x :: y :: l else if kM y = kM x then x :: l else y :: putM l x
def isM (l : List Me) (x : List UInt8) : Bool := l.any (fun y => decide (kM y = x))
def delM (l : List Me) (x : List UInt8) : List Me := l.filter (fun y => !decide (kM y = x))
theorem lt_irr (a : List UInt8) : ¬ a < a := List.lt_irrefl a
theorem lt_tri (a b : List UInt8) : a < b ∨ a = b ∨ b < a := by
  by_cases h : a < b
  · exact .inl h
  · rcases Classical.em (a = b) with e | e
    · exact .inr (.inl e)
    · exact .inr (.inr (Std.lt_of_le_of_ne (List.not_lt.1 h) (fun e' => e e'.symm)))
theorem filterM (l : List Me) (x : List UInt8) (h : ∀ y ∈ l, kM y ≠ x) : (l.map entM).filter (fun q => !q.1.sameKey (.string x)) = l.map entM := by
  rw [List.filter_eq_self]
  intro q hq
  obtain ⟨y, hy, rfl⟩ := List.mem_map.1 hq
  unfold entM
  rw [same_str, decide_eq_false (h y hy)]
  rfl
theorem insM_head (l : List Me) (x : Me) (h : ∀ y ∈ l, kM x < kM y) : DataW.insert (entM x) (l.map entM) = entM x :: l.map entM := by
  cases l with
  | nil => rfl
  | cons y l =>
    have h1 : (entM x).1.before (entM y).1 = true := by
      show bytesBefore (kM x) (kM y) = true
      rw [bb_lt]
      exact decide_eq_true (h y List.mem_cons_self)
    rw [List.map_cons, DataW.insert, if_pos h1]
theorem putM_eq (l : List Me) (x : Me) (h : RisM l) : (datM l).put (.string (kM x)) (.lit (.int .i64 x.f1)) = datM (putM l x) := by
  show DataW.map (DataW.insert (entM x) ((l.map entM).filter (fun q => !q.1.sameKey (.string (kM x))))) = DataW.map ((putM l x).map entM)
  congr 1
  induction l with
  | nil => rfl
  | cons y l ih =>
    obtain ⟨h1, h2⟩ := List.pairwise_cons.1 h
    unfold putM
    by_cases c1 : kM x < kM y
    · have hall : ∀ z ∈ y :: l, kM x < kM z := fun z hz => by
        rcases List.mem_cons.1 hz with rfl | hz
        · exact c1
        · exact List.lt_trans c1 (h1 z hz)
      rw [if_pos c1, filterM (y :: l) (kM x) (fun z hz e => lt_irr _ (by have := hall z hz; rwa [e] at this)), insM_head (y :: l) x hall]
      rfl
    · rw [if_neg c1]
      by_cases c2 : kM y = kM x
      · have e : (entM y).1.sameKey (.string (kM x)) = true := by
          unfold entM
          rw [same_str, decide_eq_true c2]
        have hall : ∀ z ∈ l, kM x < kM z := fun z hz => by rw [← c2]; exact h1 z hz
        rw [if_pos c2, List.map_cons, List.filter_cons_of_neg (by rw [e]; decide), filterM l (kM x) (fun z hz e => lt_irr _ (by have := hall z hz; rwa [e] at this)), insM_head l x hall]
        rfl
      · have e : (entM y).1.sameKey (.string (kM x)) = false := by
          unfold entM
          rw [same_str, decide_eq_false c2]
        have hb : (entM x).1.before (entM y).1 = false := by
          show bytesBefore (kM x) (kM y) = false
          rw [bb_lt]
          exact decide_eq_false c1
        rw [if_neg c2, List.map_cons, List.filter_cons_of_pos (by rw [e]; decide), DataW.insert, if_neg (by rw [hb]; decide), ih h2]
        rfl
theorem putM_mem (l : List Me) (x z : Me) (h : z ∈ putM l x) : z = x ∨ z ∈ l := by
  induction l with
  | nil => exact .inl (by simpa [putM] using h)
  | cons y l ih =>
    unfold putM at h
    split at h
    · rcases List.mem_cons.1 h with h | h
      · exact .inl h
      · exact .inr h
    · split at h
      · rcases List.mem_cons.1 h with h | h
        · exact .inl h
        · exact .inr (List.mem_cons_of_mem _ h)
      · rcases List.mem_cons.1 h with h | h
        · exact .inr (h ▸ List.mem_cons_self)
        · rcases ih h with h | h
          · exact .inl h
          · exact .inr (List.mem_cons_of_mem _ h)
theorem putM_ris (l : List Me) (x : Me) (h : RisM l) : RisM (putM l x) := by
  induction l with
  | nil => exact List.pairwise_singleton _ _
  | cons y l ih =>
    obtain ⟨h1, h2⟩ := List.pairwise_cons.1 h
    unfold putM
    split
    · rename_i c1
      refine List.pairwise_cons.2 ⟨fun z hz => ?_, h⟩
      rcases List.mem_cons.1 hz with rfl | hz
      · exact c1
      · exact List.lt_trans c1 (h1 z hz)
    · rename_i c1
      split
      · rename_i c2
        exact List.pairwise_cons.2 ⟨fun z hz => by rw [← c2]; exact h1 z hz, h2⟩
      · rename_i c2
        refine List.pairwise_cons.2 ⟨fun z hz => ?_, ih h2⟩
        rcases putM_mem l x z hz with rfl | hz
        · rcases lt_tri (kM y) (kM z) with h3 | h3 | h3
          · exact h3
          · exact (c2 h3).elim
          · exact (c1 h3).elim
        · exact h1 z hz
theorem putM_len (l : List Me) (x : Me) (h : RisM l) : (putM l x).length = if isM l (kM x) = true then l.length else l.length + 1 := by
  induction l with
  | nil => rfl
  | cons y l ih =>
    obtain ⟨h1, h2⟩ := List.pairwise_cons.1 h
    unfold putM isM
    rw [List.any_cons]
    by_cases c1 : kM x < kM y
    · have hno : (decide (kM y = kM x) || l.any (fun y => decide (kM y = kM x))) = false := by
        rw [Bool.or_eq_false_iff, decide_eq_false_iff_not, List.any_eq_false]
        refine ⟨fun e => lt_irr _ (by rwa [e] at c1), fun z hz hd => ?_⟩
        have := List.lt_trans c1 (h1 z hz)
        rw [of_decide_eq_true hd] at this
        exact lt_irr _ this
      rw [if_pos c1, hno, if_neg (by decide)]
      rfl
    · rw [if_neg c1]
      by_cases c2 : kM y = kM x
      · rw [if_pos c2, decide_eq_true c2, Bool.true_or, if_pos rfl]
        rfl
      · rw [if_neg c2, decide_eq_false c2, Bool.false_or, List.length_cons, ih h2]
        unfold isM
        split <;> rfl
theorem hasM (l : List Me) (x : List UInt8) : Maps.has (datM l) (.string x) = isM l x := by
  show (l.map entM).any (fun q => q.1.sameKey (.string x)) = _
  rw [List.any_map]
  unfold isM
  congr 1
  funext y
  exact same_str _ _
theorem sizeM (l : List Me) : Maps.size (datM l) = l.length := List.length_map _
theorem delM_eq (l : List Me) (x : List UInt8) : (datM l).del (.string x) = datM (delM l x) := by
  show DataW.map ((l.map entM).filter (fun q => !q.1.sameKey (.string x))) = DataW.map ((delM l x).map entM)
  congr 1
  unfold delM
  rw [List.filter_map]
  congr 1
  apply List.filter_congr
  intro y _
  show (!(Lit.string (kM y)).sameKey (.string x)) = _
  rw [same_str]
theorem ris_filter {l : List Me} (h : RisM l) (p : Me → Bool) : RisM (l.filter p) := List.Pairwise.filter p h
theorem ris_uniq {l : List Me} (h : RisM l) {x y : Me} (hx : x ∈ l) (hy : y ∈ l) (e : kM x = kM y) : x = y := by
  obtain ⟨i, hi, rfl⟩ := List.getElem_of_mem hx
  obtain ⟨j, hj, rfl⟩ := List.getElem_of_mem hy
  have h' := List.pairwise_iff_getElem.1 h
  rcases Nat.lt_trichotomy i j with h1 | h1 | h1
  · have := h' i j hi hj h1
    rw [e] at this
    exact (lt_irr _ this).elim
  · subst h1; rfl
  · have := h' j i hj hi h1
    rw [e] at this
    exact (lt_irr _ this).elim
theorem atM (l : List Me) (h : RisM l) (y : Me) (hy : y ∈ l) (zd : DataW Unit) : (datM l).atKey (.string (kM y)) zd = .lit (.int .i64 y.f1) := by
  have key : ∀ (l : List Me), y ∈ l → (∀ z ∈ l, kM z = kM y → z = y) → ((l.map entM).find? (fun q => q.1.sameKey (.string (kM y)))).map (·.2) = some (.lit (.int .i64 y.f1)) := by
    intro l
    induction l with
    | nil => intro h; cases h
    | cons z l ih =>
      intro hy hu
      rw [List.map_cons, List.find?_cons]
      have e : (entM z).1.sameKey (.string (kM y)) = decide (kM z = kM y) := same_str _ _
      rw [e]
      by_cases c : kM z = kM y
      · rw [decide_eq_true c]
        rw [hu z List.mem_cons_self c]
        rfl
      · rw [decide_eq_false c]
        rcases List.mem_cons.1 hy with rfl | hy
        · exact (c rfl).elim
        · exact ih hy (fun w hw => hu w (List.mem_cons_of_mem _ hw))
  have := key l hy (fun z hz e => ris_uniq h hz hy e)
  unfold datM DataW.atKey
  first
  | (simp only []; cases hf : (l.map entM).find? (fun q => q.1.sameKey (.string (kM y))) with
    | none => rw [hf] at this; cases this
    | some q => rw [hf] at this; simpa using this)
/-- one who goes makes one fewer -/
theorem drop_one (l : List Me) (h : RisM l) (p : Me → Bool) (y : Me) (hy : y ∈ l) (hp : p y = true) : (l.filter p).length = (l.filter (fun z => p z && !decide (kM z = kM y))).length + 1 := by
  induction l with
  | nil => cases hy
  | cons z l ih =>
    obtain ⟨h1, h2⟩ := List.pairwise_cons.1 h
    by_cases e : z = y
    · subst e
      have hrest : l.filter (fun w => p w && !decide (kM w = kM z)) = l.filter p := by
        apply List.filter_congr
        intro w hw
        have : kM w ≠ kM z := fun e => lt_irr _ (by have := h1 w hw; rwa [e] at this)
        rw [decide_eq_false this]
        simp
      rw [List.filter_cons_of_pos hp, List.filter_cons_of_neg (by simp), hrest]
      rfl
    · rcases List.mem_cons.1 hy with he | hy
      · exact (e he.symm).elim
      · have hk : kM z ≠ kM y := fun e => lt_irr _ (by have := h1 y hy; rwa [e] at this)
        have ih := ih h2 hy
        by_cases hz : p z = true
        · rw [List.filter_cons_of_pos hz, List.filter_cons_of_pos (by simp [hz, hk]), List.length_cons, List.length_cons, ih]
        · rw [List.filter_cons_of_neg hz, List.filter_cons_of_neg (by simp [hz]), ih]
/-! ### letting those go who are out -/
def keepM (wt sl : Int) (l : List Me) : List Me := l.filter (fun y => decide (sl - y.f1 ≤ wt))
/-- while the range is under way: those who stay, and those who are still to come -/
def midM (wt sl : Int) (left : Lit → Bool) (l : List Me) : List Me := l.filter (fun y => decide (sl - y.f1 ≤ wt) || left (.string (kM y)))
theorem mid_start (wt sl : Int) (l : List Me) : midM wt sl (Maps.has (datM l)) l = l := by
  unfold midM
  rw [List.filter_eq_self]
  intro y hy
  rw [hasM]
  have : isM l (kM y) = true := List.any_eq_true.2 ⟨y, hy, decide_eq_true rfl⟩
  rw [this, Bool.or_true]
theorem mid_end (wt sl : Int) (l : List Me) (left : Lit → Bool) (h : ∀ k, left k = false) : midM wt sl left l = keepM wt sl l := by
  unfold midM keepM
  apply List.filter_congr
  intro y _
  rw [h, Bool.or_false]
theorem mid_find (wt sl : Int) (l : List Me) (h : RisM l) (left : Lit → Bool) (x : List UInt8) (c : Int) (hl : left (.string x) = true) (hat : ∀ zd, (datM (midM wt sl left l)).atKey (.string x) zd = .lit (.int .i64 c)) : ∃ y ∈ l, kM y = x ∧ y.f1 = c := by
  have hh : Maps.has (datM (midM wt sl left l)) (.string x) = true := has_true_of_atKey hat
  rw [hasM] at hh
  obtain ⟨y, hy, e⟩ := List.any_eq_true.1 hh
  have e := of_decide_eq_true e
  have h2 : (datM (midM wt sl left l)).atKey (.string (kM y)) .nil = .lit (.int .i64 y.f1) := atM _ (ris_filter h _) y hy .nil
  rw [e, hat .nil] at h2
  refine ⟨y, (List.mem_filter.1 hy).1, e, ?_⟩
  simpa using h2.symm
theorem mid_stays (wt sl : Int) (l : List Me) (h : RisM l) (left : Lit → Bool) (y : Me) (hy : y ∈ l) (hk : sl - y.f1 ≤ wt) : midM wt sl (fun z => left z && !z.sameKey (.string (kM y))) l = midM wt sl left l := by
  unfold midM
  apply List.filter_congr
  intro z hz
  by_cases e : kM z = kM y
  · have : z = y := ris_uniq h hz hy e
    subst this
    rw [decide_eq_true hk, Bool.true_or, Bool.true_or]
  · simp only [same_str, decide_eq_false e]
    simp
theorem mid_struck (wt sl : Int) (l : List Me) (h : RisM l) (left : Lit → Bool) (y : Me) (hy : y ∈ l) (hk : ¬ sl - y.f1 ≤ wt) (hl : left (.string (kM y)) = true) :
    (datM (midM wt sl left l)).del (.string (kM y)) = datM (midM wt sl (fun z => left z && !z.sameKey (.string (kM y))) l) ∧ (midM wt sl left l).length = (midM wt sl (fun z => left z && !z.sameKey (.string (kM y))) l).length + 1 := by
  have e : midM wt sl (fun z => left z && !z.sameKey (.string (kM y))) l = l.filter (fun z => (decide (sl - z.f1 ≤ wt) || left (.string (kM z))) && !decide (kM z = kM y)) := by
    unfold midM
    apply List.filter_congr
    intro z hz
    by_cases e : kM z = kM y
    · have : z = y := ris_uniq h hz hy e
      subst this
      simp only [same_str, decide_eq_true rfl, decide_eq_false hk]
      simp
    · simp only [same_str, decide_eq_false e]
      simp
  constructor
  · rw [delM_eq, e]
    unfold delM midM
    rw [List.filter_filter]
    congr 1
    apply List.filter_congr
    intro z _
    rw [Bool.and_comm]
  · rw [e]
    unfold midM
    exact drop_one l h _ y hy (by rw [hl, Bool.or_true])
end Go.Proofs.Ytohhlkabejangaa.Mb

namespace Go.Proofs.Ytohhlkabejangaa.Mb
set_option linter.unusedVariables false
set_option linter.unusedSimpArgs false
open Go.RowKit Go.Maps Go.Proofs.YtohhlkabejangaaW.PrintWords Go.Proofs.YtohhlkabejangaaW.PrintLast Go.Proofs.YtohhlkabejangaaW.PrintMore Go.Proofs.Ytohhlkabejangaa.PAs Go.Proofs.Ytohhlkabejangaa.As
/-- a group: its partitions, the time to wait, the generation, the last slot, the members -/
structure MG where
  p : Int
  w : Int
  g : Int
  s : Int
  L : List Me
def MG.cs (m : MG) (b : Nat) : Array Value := #[.int .i64 m.p, .int .i64 m.w, .int .i64 m.g, .int .i64 m.s, .map (some b)]
/-- block a is the group, block b its map -/
structure Tab (W : World) (a b : Nat) (m : MG) : Prop where
  cell : W.heap[a]? = some (.cells (m.cs b) 145 (0, 0))
  own : W.ownsMap Try.prog 9 (plainElem (H := Unit) Try.prog 3) b m.L.length (datM m.L)
  ris : RisM m.L
/-- all but two blocks stay -/
structure Far (W W' : World) (a b : Nat) : Prop where
  os : W'.os = W.os
  tape : W'.tape = W.tape
  output : W'.output = W.output
  size : W.heap.size ≤ W'.heap.size
  block : ∀ k, k < W.heap.size → k ≠ a → k ≠ b → W'.heap[k]? = W.heap[k]?
theorem Far.refl (W : World) (a b : Nat) : Far W W a b := ⟨rfl, rfl, rfl, Nat.le_refl _, fun _ _ _ _ => rfl⟩
theorem Far.trans {W W1 W2 : World} {a b : Nat} (h : Far W W1 a b) (k : Far W1 W2 a b) : Far W W2 a b :=
  ⟨k.os.trans h.os, k.tape.trans h.tape, k.output.trans h.output, Nat.le_trans h.size k.size, fun i hi h1 h2 => (k.block i (Nat.lt_of_lt_of_le hi h.size) h1 h2).trans (h.block i hi h1 h2)⟩
theorem Far.below {W W1 : World} {a b : Nat} (k : Below W.heap.size W W1) : Far W W1 a b := ⟨k.os, k.tape, k.output, k.size, fun i hi _ _ => k.block i hi⟩
theorem Far.grown {W W1 : World} {a b : Nat} (k : W.grownBy W1 (some b)) : Far W W1 a b := ⟨k.os, k.tape, k.output, k.size, fun i hi _ h => k.block i hi (fun e => h (Option.some.inj e))⟩
theorem Far.new {W W1 : World} {a b r : Nat} (k : W.grownBy W1 none) : Far W W1 a b := ⟨k.os, k.tape, k.output, k.size, fun i hi _ h => k.block i hi (by simp)⟩
theorem Far.set (W : World) (a b j : Nat) (u : Value) : Far W (W.setCell ⟨a, j, none⟩ u) a b :=
  ⟨rfl, rfl, rfl, by simp [World.setCell], fun i _ h _ => Below.heap_setCell W ⟨a, j, none⟩ u i h⟩
theorem Far.from {w W W' : World} {a b : Nat} (h : Below w.heap.size w W) (k : Far W W' a b) (ha : w.heap.size ≤ a) (hb : w.heap.size ≤ b) : Below w.heap.size w W' :=
  ⟨k.os.trans h.os, k.tape.trans h.tape, k.output.trans h.output, Nat.le_trans h.size k.size, fun i hi => (k.block i (Nat.lt_of_lt_of_le hi h.size) (by omega) (by omega)).trans (h.block i hi)⟩
theorem own_exact {w : World} {b n : Nat} {l : List Me} (h : w.ownsMap Try.prog 9 (plainElem (H := Unit) Try.prog 3) b n (datM l)) : w.ownsMap Try.prog 9 (plainElem (H := Unit) Try.prog 3) b l.length (datM l) := by
  obtain ⟨es, clock, hb, F, hs, hD⟩ := h
  refine ⟨es, clock, hb, F, ?_, hD⟩
  have h9 : (datM l) = .map (l.map entM) := rfl
  rw [h9] at hD
  injection hD with hD
  have := congrArg List.length hD
  rw [length_read, List.length_map] at this
  omega
theorem Tab.ne {W : World} {a b : Nat} {m : MG} (h : Tab W a b m) : a ≠ b := by
  intro e
  obtain ⟨es, clock, hb, _⟩ := h.own
  have := h.cell
  rw [e, hb] at this
  cases this
theorem Tab.lt {W : World} {a b : Nat} {m : MG} (h : Tab W a b m) : a < W.heap.size := (Array.getElem?_eq_some_iff.1 h.cell).1
theorem Tab.later {W W' : World} {a b : Nat} {m : MG} (h : Tab W a b m) (k : Below W.heap.size W W') : Tab W' a b m :=
  ⟨(k.block a h.lt).trans h.cell, h.own.kept (row := none) ⟨k.os, k.tape, k.output, k.size, fun i hi _ => k.block i hi⟩ (by simp), h.ris⟩
theorem Tab.set {W : World} {a b : Nat} {m m' : MG} (h : Tab W a b m) (j : Nat) (u : Value) (hc : (m.cs b).setIfInBounds j u = m'.cs b) (hL : m'.L = m.L) : Tab (W.setCell ⟨a, j, none⟩ u) a b m' :=
  ⟨blk_put h.cell j u hc, by rw [hL]; exact h.own.kept (row := some a) ⟨rfl, rfl, rfl, by simp [World.setCell], fun i hi hne => Below.heap_setCell W ⟨a, j, none⟩ u i (fun e => hne (by rw [e]))⟩ (fun e => h.ne (Option.some.inj e).symm), by rw [hL]; exact h.ris⟩
theorem Tab.turn {W W' : World} {a b n : Nat} {m : MG} {L : List Me} (h : Tab W a b m) (hg : W.grownBy W' (some b)) (ho : W'.ownsMap Try.prog 9 (plainElem (H := Unit) Try.prog 3) b n (datM L)) (hr : RisM L) : Tab W' a b { m with L := L } :=
  ⟨(hg.block a h.lt (fun e => h.ne (Option.some.inj e))).trans h.cell, own_exact ho, hr⟩
theorem Tab.c {W : World} {a b : Nat} {m : MG} (h : Tab W a b m) (j : Nat) : W.cell? ⟨a, j, none⟩ = (m.cs b)[j]? := blk_cell h.cell j
theorem Tab.z {W : World} {a b : Nat} {m : MG} (h : Tab W a b m) (j : Nat) : W.frozen? ⟨a, j, none⟩ = false := blk_frozen h.cell j
theorem zeroI (w : World) : (zeroValue 3).run Try.prog w = .ok (.int .i64 0) w := by kernel_rfl
theorem Tab.look {W : World} {a b : Nat} {m : MG} (h : Tab W a b m) (x : ByteArray) (hx : x.size ≤ 1000) :
    ∃ c : Int, (Instr.lookup 143 (.map (some b)) (.string x) true).run Try.prog W = .ok (.tuple #[.int .i64 c, .bool (isM m.L x.toList)]) W := by
  obtain ⟨v, ps, hrun, hv⟩ := h.own.look_ok str_law Try.underlying143 (zeroI W) (plainElem_int Try.underlying3 (by decide)) (key_B x hx)
  obtain ⟨c, rfl, _⟩ := plainElem_int_inv Try.underlying3 hv
  rw [hasM] at hrun
  exact ⟨c, hrun⟩
theorem Tab.len {W : World} {a b : Nat} {m : MG} (h : Tab W a b m) (ty : TypeId) : (Builtin.len_ #[143] ty #[.map (some b)]).run Try.prog W = .ok (.int .i64 (m.L.length : Int)) W := by
  have h9 := h.own.len Try.underlying143 ty
  rw [h9, sizeM]
/-! ### what calls come to -/
def okS (m : MG) (slot : Int) : Bool := decide (slot ≥ m.s) && decide (slot ≤ 1099511627776)
def sweepM (m : MG) (slot : Int) : MG := { m with s := slot, g := if (keepM m.w slot m.L).length < m.L.length then m.g + 1 else m.g, L := keepM m.w slot m.L }
def outM (m : MG) (slot : Int) : Int := (m.L.length : Int) - ((keepM m.w slot m.L).length : Int)
structure okM (m : MG) : Prop where
  p : 0 ≤ m.p ∧ m.p ≤ 4
  w : 1 ≤ m.w ∧ m.w ≤ 1048576
  g : 0 ≤ m.g
  s : 0 ≤ m.s ∧ m.s ≤ 1099511627776
  n : m.L.length ≤ 8
  a : ∀ x ∈ m.L, nameB x.f0 = true ∧ 0 ≤ x.f1 ∧ x.f1 ≤ 1099511627776
theorem okM_sweep {m : MG} (h : okM m) {slot : Int} (hs : okS m slot = true) : okM (sweepM m slot) := by
  unfold okS at hs
  simp only [Bool.and_eq_true, decide_eq_true_eq] at hs
  have hg := h.g
  have h0 := h.s
  refine ⟨h.p, h.w, ?_, ⟨by show 0 ≤ slot; omega, hs.2⟩, Nat.le_trans (List.length_filter_le _ _) h.n, fun x hx => h.a x (List.mem_filter.1 hx).1⟩
  unfold sweepM
  simp only []
  split <;> omega
set_option maxHeartbeats 16000000 in
set_option maxRecDepth 100000 in
theorem new_bad (p wt : Int) (w : World) (h : p < 0 ∨ p > 4 ∨ wt < 1 ∨ wt > 1048576) :
    Calls Try.prog 29 #[.int .i64 p, .int .i64 wt] w fun e w' => e = .returned (.tuple #[.pointer none, .int .i64 1]) ∧ Below w.heap.size w w' := by
  have hund : ∀ b, some undef = some (Value.bool b) → False := fun b h => by simp [undef] at h
  have hh : p < 0 ∨ ¬ p < 0 ∧ (p > 4 ∨ ¬ p > 4 ∧ (wt < 1 ∨ ¬ wt < 1 ∧ wt > 1048576)) := by omega
  clear h
  rcases hh with h | ⟨h, h1 | ⟨h1, h2 | ⟨h2, h3⟩⟩⟩
  · have c1 : decide (p < 0) = true := decide_eq_true h
    clear h
    go_enter Try.func29, Try.ntmps29
    go_wp2_with fail
    exact bodyPost_ret (v := .tuple #[.pointer none, .int .i64 1]) (by simp [results, Try.results29, go_sem]) rfl ⟨rfl, Below.refl _ _⟩
  · have c1 : decide (p < 0) = false := decide_eq_false h
    have c2 : decide (p > 4) = true := decide_eq_true h1
    have c2' : decide (4 < p) = true := decide_eq_true h1
    clear h h1
    go_enter Try.func29, Try.ntmps29
    go_wp2_with fail
    exact bodyPost_ret (v := .tuple #[.pointer none, .int .i64 1]) (by simp [results, Try.results29, go_sem]) rfl ⟨rfl, Below.refl _ _⟩
  · have c1 : decide (p < 0) = false := decide_eq_false h
    have c2 : decide (p > 4) = false := decide_eq_false h1
    have c2' : decide (4 < p) = false := decide_eq_false h1
    have c3 : decide (wt < 1) = true := decide_eq_true h2
    clear h h1 h2
    go_enter Try.func29, Try.ntmps29
    go_wp2_with fail
    exact bodyPost_ret (v := .tuple #[.pointer none, .int .i64 1]) (by simp [results, Try.results29, go_sem]) rfl ⟨rfl, Below.refl _ _⟩
  · have c1 : decide (p < 0) = false := decide_eq_false h
    have c2 : decide (p > 4) = false := decide_eq_false h1
    have c2' : decide (4 < p) = false := decide_eq_false h1
    have c3 : decide (wt < 1) = false := decide_eq_false h2
    have c4 : decide (wt > 1048576) = true := decide_eq_true h3
    have c4' : decide (1048576 < wt) = true := decide_eq_true h3
    clear h h1 h2 h3
    go_enter Try.func29, Try.ntmps29
    go_wp2_with fail
    exact bodyPost_ret (v := .tuple #[.pointer none, .int .i64 1]) (by simp [results, Try.results29, go_sem]) rfl ⟨rfl, Below.refl _ _⟩
set_option maxHeartbeats 16000000 in
set_option maxRecDepth 100000 in
theorem new_calls (p wt : Int) (w : World) (h : 0 ≤ p ∧ p ≤ 4 ∧ 1 ≤ wt ∧ wt ≤ 1048576) :
    Calls Try.prog 29 #[.int .i64 p, .int .i64 wt] w fun e w' => ∃ a b, e = .returned (.tuple #[.pointer (some ⟨a, 0, none⟩), .int .i64 0]) ∧ Tab w' a b ⟨p, wt, 0, 0, []⟩ ∧ w.heap.size ≤ a ∧ w.heap.size ≤ b ∧ Below w.heap.size w w' := by
  have hund : ∀ b, some undef = some (Value.bool b) → False := fun b h => by simp [undef] at h
  have hmm := @run_makeMap Try.prog
  obtain ⟨h1, h2, h3, h4⟩ := h
  have c1 : decide (p < 0) = false := decide_eq_false (by omega)
  have c2 : decide (p > 4) = false := decide_eq_false (by omega)
  have c2' : decide (4 < p) = false := decide_eq_false (by omega)
  have c3 : decide (wt < 1) = false := decide_eq_false (by omega)
  have c4 : decide (wt > 1048576) = false := decide_eq_false (by omega)
  have c4' : decide (1048576 < wt) = false := decide_eq_false (by omega)
  clear h1 h2 h3 h4
  go_enter Try.func29, Try.ntmps29
  go_wp2_with (first
    | ((with_reducible refine gate_dst (N := 24) rfl ?_); refine box_event rfl (N := 24) rfl (cs := #[.int .i64 p, .int .i64 wt, .int .i64 0, .int .i64 0, .map (some w.heap.size)]) (t := 145) ?hr ?_; (case hr => first | (go_simp; done) | (go_simp; rfl)); intro g3 hg3 w1 hbx hbl; have HB := Aside0.mk hbl; have G3 := Aside0.mk hg3; have Y := Aside0.mk hbx; clear hbl hg3 hbx))
  refine bodyPost_ret (v := .tuple #[.pointer (some ⟨g3, 0, none⟩), .int .i64 0]) (by simp [results, Try.results29, go_sem]) rfl ?_
  refine ⟨g3, w.heap.size, rfl, ⟨Y.out, ?_, List.Pairwise.nil⟩, ?_, Nat.le_refl _, below_step (below_alloc (Below.refl _ _) _) HB.out⟩
  · exact (World.ownsMap_made w _ _ _).kept (row := none) ⟨HB.out.os, HB.out.tape, HB.out.output, HB.out.size, fun i hi _ => HB.out.block i hi⟩ (by simp)
  · rw [G3.out]
    simp
set_option maxHeartbeats 16000000 in
set_option maxRecDepth 100000 in
theorem may_calls (a b : Nat) (m : MG) (slot : Int) (w : World) (hT : Tab w a b m) :
    Calls Try.prog 89 #[.pointer (some ⟨a, 0, none⟩), .int .i64 slot] w fun e w' => e = .returned (.bool (okS m slot)) ∧ Below w.heap.size w w' := by
  have hund : ∀ b, some undef = some (Value.bool b) → False := fun b h => by simp [undef] at h
  have hc : w.cell? ⟨a, 3, none⟩ = some (.int .i64 m.s) := hT.c 3
  clear hT
  unfold okS
  obtain ⟨b1, hb1⟩ : ∃ b1, decide (slot ≥ m.s) = b1 := ⟨_, rfl⟩
  rw [hb1]
  cases b1 with
  | false =>
    go_enter Try.func89, Try.ntmps89
    go_wp2_with fail
    go_ret
    exact ⟨rfl, Below.refl _ _⟩
  | true =>
    go_enter Try.func89, Try.ntmps89
    go_wp2_with fail
    go_ret
    exact ⟨by simp, Below.refl _ _⟩
set_option maxHeartbeats 16000000 in
set_option maxRecDepth 100000 in
theorem is_calls (a b : Nat) (m : MG) (x : ByteArray) (hx : x.size ≤ 1000) (w : World) (hT : Tab w a b m) :
    Calls Try.prog 88 #[.pointer (some ⟨a, 0, none⟩), .string x] w fun e w' => e = .returned (.bool (isM m.L x.toList)) ∧ Below w.heap.size w w' := by
  have hc : w.cell? ⟨a, 4, none⟩ = some (.map (some b)) := hT.c 4
  obtain ⟨c, hlk⟩ := hT.look x hx
  clear hT
  go_enter Try.func88, Try.ntmps88
  go_wp2_with fail
  go_ret
  exact ⟨rfl, Below.refl _ _⟩
end Go.Proofs.Ytohhlkabejangaa.Mb

namespace Go.Proofs.Ytohhlkabejangaa.Mb
set_option linter.unusedVariables false
set_option linter.unusedSimpArgs false
open Go.RowKit Go.Maps Go.Sort Go.Proofs.YtohhlkabejangaaW.PrintWords Go.Proofs.YtohhlkabejangaaW.PrintLast Go.Proofs.YtohhlkabejangaaW.PrintMore Go.Proofs.Ytohhlkabejangaa.PAs Go.Proofs.Ytohhlkabejangaa.As
abbrev Rg (W : World) (b r n : Nat) (D : DataW Unit) (left : Lit → Bool) (cnt : Nat) : Prop := W.ranges Try.prog 9 (plainElem (H := Unit) Try.prog 3) b r n D left cnt
theorem keyS (x : List UInt8) (h : x.length ≤ 1000) : keyOf Try.prog 9 (encStr x) = some (.string x) := key_str x h
theorem cnt_step {k a b n : Nat} (h1 : k + a = n) (h2 : a = b + 1) : k + 1 + b = n := by omega
theorem cnt_le {k a n : Nat} (h1 : k + a = n) (h2 : n ≤ 8) : k ≤ 8 := by omega
theorem wrapk (k : Nat) (h : k ≤ 8) : wrap64 ((k : Int) + 1) = (k : Int) + 1 ∧ IntKind.i64.wrap ((k : Int) + 1) = (k : Int) + 1 := ⟨w64 _ (by omega) (by omega), IntWalk.i64_in _ (by omega)⟩
set_option maxHeartbeats 16000000 in
set_option maxRecDepth 100000 in
theorem sweep_calls (a b : Nat) (m : MG) (slot : Int) (w : World) (hT : Tab w a b m) (hok : okM m) (hg : m.g ≤ 1000000) (hs : okS m slot = true) :
    Calls Try.prog 90 #[.pointer (some ⟨a, 0, none⟩), .int .i64 slot] w fun e w' => e = .returned (.int .i64 (outM m slot)) ∧ Tab w' a b (sweepM m slot) ∧ Far w w' a b := by
  have hund : ∀ b, some undef = some (Value.bool b) → False := fun b h => by simp [undef] at h
  have hs2 : m.s ≤ slot ∧ slot ≤ 1099511627776 := by
    unfold okS at hs
    simpa [Bool.and_eq_true, decide_eq_true_eq] using hs
  have hs0 := hok.s
  have hw0 := hok.w
  have hg0 := hok.g
  have HOK := Aside0.mk hok
  have HRIS := Aside0.mk hT.ris
  have HAB := Aside0.mk hT.ne
  have HT1 := Aside0.mk (hT.set 3 (.int .i64 slot) (m' := { m with s := slot }) rfl rfl)
  have HF1 := Aside0.mk (Far.set w a b 3 (.int .i64 slot))
  have hc3 : w.cell? ⟨a, 3, none⟩ = some (.int .i64 m.s) := hT.c 3
  have hz3 : w.frozen? ⟨a, 3, none⟩ = false := hT.z 3
  have HLT := Aside0.mk (show a < (w.setCell ⟨a, 3, none⟩ (.int .i64 slot)).heap.size from HT1.out.lt)
  have hc4 : (w.setCell ⟨a, 3, none⟩ (.int .i64 slot)).cell? ⟨a, 4, none⟩ = some (.map (some b)) := HT1.out.c 4
  clear hok hs hT
  go_enter Try.func90, Try.ntmps90
  go_upto_region 3 with fail
  generalize w.setCell ⟨a, 3, none⟩ (.int .i64 slot) = w1 at *
  go_wp2_with (first
    | (at_range; refine wpList_range_own _ rfl _ 143 rfl 9 3 str_law Try.underlying143 (plainElem (H := Unit) Try.prog 3) b m.L.length (datM m.L) rfl HT1.out.own ?_; intro w2 hrg hgr hsz; have HRG := Aside0.mk (show Rg w2 b w1.heap.size m.L.length (datM m.L) (Maps.has (datM m.L)) (Maps.size (datM m.L)) from hrg); have HF2 := Aside0.mk (HF1.out.trans (Far.new (r := 0) hgr)); have HC2 := Aside0.mk ((hgr.block a HLT.out (by simp)).trans HT1.out.cell); clear hrg hgr hsz))
  obtain ⟨r, hr⟩ : ∃ r, w1.heap.size = r := ⟨_, rfl⟩
  rw [hr] at HRG HLT
  simp only [hr]
  have hrw : w.heap.size ≤ r := by rw [← hr]; exact HF1.out.size
  have HRW := Aside0.mk hrw
  clear hr HT1 HF1 hrw hc4 hz3 hc3
  go_frame
  show Code.wp _ _ _ _ _
  go_loopw [5] (fun nv wr => ∃ (left : Lit → Bool) (cnt k : Nat), nv = .int .i64 k ∧ Aside0 (k + (midM m.w slot left m.L).length = m.L.length) ∧ Aside0 (Rg wr b r m.L.length (datM (midM m.w slot left m.L)) left cnt) ∧ Aside0 (wr.heap[a]? = some (.cells (MG.cs { m with s := slot } b) 145 (0, 0))) ∧ Aside0 (Far w wr a b)) (fun _ wr => wr.rangeLeft b r)
  case atStart => exact ⟨_, _, 0, rfl, ⟨by rw [mid_start]; omega⟩, ⟨by rw [mid_start]; exact HRG.out⟩, HC2, HF2⟩
  case round =>
    clear HRG HC2 HF2
    obtain ⟨left, cnt, k, rfl, HN, HRG, HC, HF⟩ := hrel
    have hc1 : wr.cell? ⟨a, 1, none⟩ = some (.int .i64 m.w) := (blk_cell HC.out 1).trans rfl
    have HBR := Aside0.mk (show b ≠ r from fun e => by
      obtain ⟨_, _, _, _, _, h1, _, _, _, h2, _⟩ := HRG.out
      rw [e, h2] at h1
      cases h1)
    go_wp2_with (first
      | (at_next; refine wpList_next_ranges _ rfl _ rfl 9 str_law (plainElem (H := Unit) Try.prog 3) encStr (Value.int .i64) (fun key kl hk => by obtain ⟨x, hx, _⟩ := Maps.keyOf_str Try.underlying9 hk; exact ⟨x, hx⟩) (fun v y hv => by obtain ⟨c, rfl, _⟩ := plainElem_int_inv Try.underlying3 hv; exact ⟨c, rfl⟩) b r m.L.length _ _ _ rfl HRG.out ?_ ?_))
    · intro hc0 hl0
      have HL := Aside0.mk (mid_end m.w slot m.L left hl0)
      have hkn : k + (keepM m.w slot m.L).length = m.L.length := by rw [← HL.out]; exact HN.out
      have HOWN := Aside0.mk (show wr.ownsMap Try.prog 9 (plainElem (H := Unit) Try.prog 3) b m.L.length (datM (keepM m.w slot m.L)) by rw [← HL.out]; exact World.ranges.owns HRG.out)
      have hc2 : wr.cell? ⟨a, 2, none⟩ = some (.int .i64 m.g) := (blk_cell HC.out 2).trans rfl
      have hz2 : wr.frozen? ⟨a, 2, none⟩ = false := blk_frozen HC.out 2
      have HT := Aside0.mk (show Tab wr a b { m with s := slot, L := keepM m.w slot m.L } from ⟨HC.out, own_exact HOWN.out, ris_filter HRIS.out _⟩)
      have hout : ((k : Nat) : Int) = outM m slot := by unfold outM; omega
      clear hl0 hc0 HRG HN HC HL HOWN
      by_cases hk0 : k = 0
      · have e1 : decide ((k : Int) > 0) = false := decide_eq_false (by omega)
        have e2 : decide (0 < (k : Int)) = false := decide_eq_false (by omega)
        have e3 : decide (0 < k) = false := decide_eq_false (by omega)
        have hsw : sweepM m slot = { m with s := slot, L := keepM m.w slot m.L } := by
          unfold sweepM
          rw [if_neg (by omega)]
        clear hk0 hkn
        have HOUT := Aside0.mk hout
        have HSW := Aside0.mk hsw
        clear hout hsw
        go_wp2_with fail
        go_ret
        exact ⟨by rw [← HOUT.out]; rfl, by rw [HSW.out]; exact HT.out, HF.out⟩
      · have e1 : decide ((k : Int) > 0) = true := decide_eq_true (by omega)
        have e2 : decide (0 < (k : Int)) = true := decide_eq_true (by omega)
        have e3 : decide (0 < k) = true := decide_eq_true (by omega)
        have hsw : sweepM m slot = { m with s := slot, g := m.g + 1, L := keepM m.w slot m.L } := by
          unfold sweepM
          rw [if_pos (by omega)]
        have hw1 : wrap64 (m.g + 1) = m.g + 1 := w64 _ (by omega) (by omega)
        have hw2 : IntKind.i64.wrap (m.g + 1) = m.g + 1 := IntWalk.i64_in _ (by omega)
        clear hk0 hkn
        have HOUT := Aside0.mk hout
        have HSW := Aside0.mk hsw
        clear hout hsw
        go_wp2_with fail
        go_ret
        exact ⟨by rw [← HOUT.out]; rfl, by rw [HSW.out]; exact HT.out.set 2 (.int .i64 (m.g + 1)) rfl rfl, HF.out.trans (Far.set _ _ _ _ _)⟩
    · intro x c kl y0 ps w3 cnt1 hkey hlk hRy hat hrg1 hlt hg3 hs3 hen
      obtain ⟨x', ex, rfl, _⟩ := Maps.keyOf_str Try.underlying9 hkey
      obtain rfl : x = x' := encStr_inj ex
      obtain ⟨c', hc', hy0⟩ := plainElem_int_inv Try.underlying3 hRy
      obtain rfl : c = c' := by simpa using hc'
      obtain ⟨y, hyL, hyx, hyc⟩ := mid_find m.w slot m.L HRIS.out left x c hlk (fun zd => (hat zd).trans (congrArg Prod.fst hy0.1))
      subst hyx hyc
      have hya := HOK.out.a y hyL
      have HLK := Aside0.mk hlk
      have HYL := Aside0.mk hyL
      have HKEY := Aside0.mk hkey
      have HRG1 := Aside0.mk (show Rg w3 b r m.L.length (datM (midM m.w slot left m.L)) (fun z => left z && !z.sameKey (.string (kM y))) cnt1 from hrg1)
      have HRL := Aside0.mk (show r < wr.heap.size by
        obtain ⟨_, _, _, _, _, _, _, _, _, h2, _⟩ := HRG.out
        exact (Array.getElem?_eq_some_iff.1 h2).1)
      have n_C := Aside0.mk ((hg3.block a (Nat.lt_trans HLT.out HRL.out) (fun e => by have := HLT.out; have := Option.some.inj e; omega)).trans HC.out)
      have n_F := Aside0.mk (show Far w w3 a b from ⟨hg3.os.trans HF.out.os, hg3.tape.trans HF.out.tape, hg3.output.trans HF.out.output, Nat.le_trans HF.out.size hg3.size, fun i hi h1 h2 => (hg3.block i (Nat.lt_of_lt_of_le hi HF.out.size) (fun e => by have := HRW.out; have := Option.some.inj e; omega)).trans (HF.out.block i hi h1 h2)⟩)
      have hleft := HRG.out.left_eq
      have HLE := Aside0.mk hleft
      have HLTC := Aside0.mk hlt
      clear hleft hlt hlk hyL hkey hrg1 hat hRy hy0 HRG hc' ex hg3 hs3 hc1 HC HF
      have HC := n_C
      have HF := n_F
      clear n_C n_F
      have hc1 : w3.cell? ⟨a, 1, none⟩ = some (.int .i64 m.w) := (blk_cell HC.out 1).trans rfl
      have hc4 : w3.cell? ⟨a, 4, none⟩ = some (.map (some b)) := (blk_cell HC.out 4).trans rfl
      have hwr1 : wrap64 (slot - y.f1) = slot - y.f1 := w64 _ (by omega) (by omega)
      have hwr2 : IntKind.i64.wrap (slot - y.f1) = slot - y.f1 := IntWalk.i64_in _ (by omega)
      by_cases hk : slot - y.f1 ≤ m.w
      · have e1 : decide (slot - y.f1 > m.w) = false := decide_eq_false (by omega)
        have e2 : decide (m.w < slot - y.f1) = false := decide_eq_false (by omega)
        have HST := Aside0.mk (mid_stays m.w slot m.L HRIS.out left y HYL.out hk)
        clear hya
        go_wp2_with fail
        go_roundw
        case rel => exact ⟨_, cnt1, k, rfl, ⟨by rw [HST.out]; exact HN.out⟩, ⟨by rw [HST.out]; exact HRG1.out⟩, HC, HF⟩
        case measure => rw [HRG1.out.left_eq, HLE.out]; exact HLTC.out
      · have e1 : decide (slot - y.f1 > m.w) = true := decide_eq_true (by omega)
        have e2 : decide (m.w < slot - y.f1) = true := decide_eq_true (by omega)
        have hst := mid_struck m.w slot m.L HRIS.out left y HYL.out hk HLK.out
        have HS1 := Aside0.mk hst.1
        have HS2 := Aside0.mk hst.2
        have hkb : k ≤ 8 := cnt_le HN.out HOK.out.n
        obtain ⟨hwk1, hwk2⟩ := wrapk k hkb
        clear hya hst
        go_wp2_with (first
          | (at_delete; refine wpList_delete_ranges _ rfl _ _ 143 9 rfl 3 str_law Try.underlying143 _ b r m.L.length _ _ _ rfl HRG1.out _ _ rfl HKEY.out ?_; intro w4 cnt2 hrg2 hle hturn; have HRG2 := Aside0.mk hrg2; have HLE2 := Aside0.mk hle; have HTU := Aside0.mk hturn.grown; clear hrg2 hle hturn; go_frame))
        rw [HS1.out] at HRG2
        have HRG3 := Aside0.mk (show Rg w4 b r m.L.length (datM (midM m.w slot (fun z => left z && !z.sameKey (.string (kM y))) m.L)) (fun z => left z && !z.sameKey (.string (kM y))) cnt2 by
          have h9 := HRG2.out
          rw [strike_twice] at h9
          exact h9)
        have HN2 := Aside0.mk (show k + 1 + (midM m.w slot (fun z => left z && !z.sameKey (.string (kM y))) m.L).length = m.L.length from cnt_step HN.out HS2.out)
        have HC4 := Aside0.mk ((HTU.out.block a (blk_lt HC.out) (fun e => HAB.out (Option.some.inj e))).trans HC.out)
        have HF4 := Aside0.mk (HF.out.trans (Far.grown HTU.out))
        clear HRG2 HS1 HS2 HN
        go_roundw
        case rel => exact ⟨_, cnt2, k + 1, by first | rfl | simp, HN2, HRG3, HC4, HF4⟩
        case measure => rw [HRG3.out.left_eq, HLE.out]; exact Nat.lt_of_le_of_lt HLE2.out HLTC.out
end Go.Proofs.Ytohhlkabejangaa.Mb

namespace Go.Proofs.Ytohhlkabejangaa.Mb
set_option linter.unusedVariables false
set_option linter.unusedSimpArgs false
open Go.RowKit Go.Maps Go.Sort Go.Proofs.YtohhlkabejangaaW.PrintWords Go.Proofs.YtohhlkabejangaaW.PrintLast Go.Proofs.YtohhlkabejangaaW.PrintMore Go.Proofs.Ytohhlkabejangaa.PAs Go.Proofs.Ytohhlkabejangaa.As
def begB (m : MG) (x : ByteArray) (slot : Int) : Bool := nameB x && okS m slot
def begM (m : MG) (x : ByteArray) (slot : Int) : MG := if begB m x slot = true then sweepM m slot else m
theorem okM_beg {m : MG} (h : okM m) (x : ByteArray) (slot : Int) : okM (begM m x slot) := by
  unfold begM
  split
  · rename_i hb
    unfold begB at hb
    rw [Bool.and_eq_true] at hb
    exact okM_sweep h hb.2
  · exact h
set_option maxHeartbeats 16000000 in
set_option maxRecDepth 100000 in
theorem begin_calls (a b : Nat) (m : MG) (x : ByteArray) (slot : Int) (hx : x.size ≤ 1000) (w : World) (hT : Tab w a b m) (hok : okM m) (hg : m.g ≤ 1000000) :
    Calls Try.prog 87 #[.pointer (some ⟨a, 0, none⟩), .string x, .int .i64 slot] w fun e w' => e = .returned (.int .i64 (if begB m x slot = true then 0 else 1)) ∧ Tab w' a b (begM m x slot) ∧ Far w w' a b := by
  have hund : ∀ b, some undef = some (Value.bool b) → False := fun b h => by simp [undef] at h
  have hname := Aside0.mk (topic_Name.calls 20 x (nameB x) w (name_eq x (by omega) 20 (Nat.le_refl _)))
  have HT := Aside0.mk hT
  have HOK := Aside0.mk hok
  have hmay := Aside0.mk (fun W (k : Below w.heap.size w W) => may_calls a b m slot W (hT.later k))
  clear hT hok
  cases hn : nameB x with
  | false =>
    have hb : begB m x slot = false := by unfold begB; rw [hn]; rfl
    have hm : begM m x slot = m := by unfold begM; rw [hb]; rfl
    rw [hb, hm]
    rw [hn] at hname
    go_enter Try.func87, Try.ntmps87
    go_wp2_with fail
    refine hname.out.mono ?_
    rintro e w1 ⟨rfl, hd⟩
    have HB := Aside0.mk hd.below
    clear hd hname hmay
    go_wp2_with fail
    go_ret
    exact ⟨rfl, HT.out.later HB.out, Far.below HB.out⟩
  | true =>
    rw [hn] at hname
    cases hs : okS m slot with
    | false =>
      have hb : begB m x slot = false := by unfold begB; rw [hn, hs]; rfl
      have hm : begM m x slot = m := by unfold begM; rw [hb]; rfl
      rw [hb, hm]
      rw [hs] at hmay
      go_enter Try.func87, Try.ntmps87
      go_wp2_with fail
      refine hname.out.mono ?_
      rintro e w1 ⟨rfl, hd⟩
      have HB := Aside0.mk hd.below
      clear hd hname
      go_wp2_with fail
      refine (hmay.out w1 HB.out).mono ?_
      rintro e w2 ⟨rfl, hb2⟩
      have HB2 := Aside0.mk (below_step HB.out hb2)
      clear hb2 HB hmay
      go_wp2_with fail
      go_ret
      exact ⟨rfl, HT.out.later HB2.out, Far.below HB2.out⟩
    | true =>
      have hb : begB m x slot = true := by unfold begB; rw [hn, hs]; rfl
      have hm : begM m x slot = sweepM m slot := by unfold begM; rw [hb]; rfl
      rw [hb, hm]
      rw [hs] at hmay
      go_enter Try.func87, Try.ntmps87
      go_wp2_with fail
      refine hname.out.mono ?_
      rintro e w1 ⟨rfl, hd⟩
      have HB := Aside0.mk hd.below
      clear hd hname
      go_wp2_with fail
      refine (hmay.out w1 HB.out).mono ?_
      rintro e w2 ⟨rfl, hb2⟩
      have HB2 := Aside0.mk (below_step HB.out hb2)
      clear hb2 HB hmay
      go_wp2_with fail
      refine (sweep_calls a b m slot w2 (HT.out.later HB2.out) HOK.out hg hs).mono ?_
      rintro e w3 ⟨rfl, hT3, hF3⟩
      have HT3 := Aside0.mk hT3
      have HF3 := Aside0.mk ((Far.below HB2.out).trans hF3)
      clear hT3 hF3 HB2
      go_wp2_with fail
      go_ret
      exact ⟨rfl, HT3.out, HF3.out⟩
set_option maxHeartbeats 16000000 in
set_option maxRecDepth 100000 in
theorem swp_calls (a b : Nat) (m : MG) (slot : Int) (w : World) (hT : Tab w a b m) (hok : okM m) (hg : m.g ≤ 1000000) :
    Calls Try.prog 38 #[.pointer (some ⟨a, 0, none⟩), .int .i64 slot] w fun e w' => e = .returned (.int .i64 (if okS m slot = true then outM m slot else 0)) ∧ Tab w' a b (if okS m slot = true then sweepM m slot else m) ∧ Far w w' a b := by
  have hund : ∀ b, some undef = some (Value.bool b) → False := fun b h => by simp [undef] at h
  have HT := Aside0.mk hT
  have HOK := Aside0.mk hok
  have hmay := Aside0.mk (may_calls a b m slot w hT)
  clear hT hok
  cases hs : okS m slot with
  | false =>
    rw [hs] at hmay
    go_enter Try.func38, Try.ntmps38
    go_wp2_with fail
    refine hmay.out.mono ?_
    rintro e w1 ⟨rfl, hb⟩
    have HB := Aside0.mk hb
    clear hb hmay
    go_wp2_with fail
    go_ret
    exact ⟨rfl, HT.out.later HB.out, Far.below HB.out⟩
  | true =>
    rw [hs] at hmay
    go_enter Try.func38, Try.ntmps38
    go_wp2_with fail
    refine hmay.out.mono ?_
    rintro e w1 ⟨rfl, hb⟩
    have HB := Aside0.mk hb
    clear hb hmay
    go_wp2_with fail
    refine (sweep_calls a b m slot w1 (HT.out.later HB.out) HOK.out hg hs).mono ?_
    rintro e w3 ⟨rfl, hT3, hF3⟩
    have HT3 := Aside0.mk hT3
    have HF3 := Aside0.mk ((Far.below HB.out).trans hF3)
    clear hT3 hF3 HB
    go_wp2_with fail
    go_ret
    exact ⟨rfl, HT3.out, HF3.out⟩
set_option maxHeartbeats 16000000 in
set_option maxRecDepth 100000 in
theorem gen_calls (a b : Nat) (m : MG) (w : World) (hT : Tab w a b m) :
    Calls Try.prog 40 #[.pointer (some ⟨a, 0, none⟩)] w fun e w' => e = .returned (.int .i64 m.g) ∧ Below w.heap.size w w' := by
  have hc : w.cell? ⟨a, 2, none⟩ = some (.int .i64 m.g) := hT.c 2
  clear hT
  go_enter Try.func40, Try.ntmps40
  go_wp2_with fail
  go_ret
  exact ⟨rfl, Below.refl _ _⟩
set_option maxHeartbeats 16000000 in
set_option maxRecDepth 100000 in
theorem parts_calls' (a b : Nat) (m : MG) (w : World) (hT : Tab w a b m) :
    Calls Try.prog 41 #[.pointer (some ⟨a, 0, none⟩)] w fun e w' => e = .returned (.int .i64 m.p) ∧ Below w.heap.size w w' := by
  have hc : w.cell? ⟨a, 0, none⟩ = some (.int .i64 m.p) := hT.c 0
  clear hT
  go_enter Try.func41, Try.ntmps41
  go_wp2_with fail
  go_ret
  exact ⟨rfl, Below.refl _ _⟩
/-! ### the members' names -/
def namesM (l : List Me) : List ByteArray := l.map (·.f0)
theorem names_len (l : List Me) : (namesM l).length = l.length := List.length_map _
theorem names_keys (l : List Me) : (namesM l).map (·.toList) = l.map kM := by
  unfold namesM
  rw [List.map_map]
  rfl
theorem names_mkB (l : List Me) : (l.map kM).map mkB = namesM l := by
  unfold namesM
  rw [List.map_map]
  apply List.map_congr_left
  intro m _
  exact toList_mkB m.f0
theorem keysM (l : List Me) : strKeys (datM l) = l.map kM := by
  unfold datM
  simp [strKeys, entM, Function.comp_def]
  intro y _
  rfl
theorem sort_keys (l : List Me) (h : RisM l) (ss : List (List UInt8)) (hp : ss.Perm (l.map kM)) : ss.mergeSort (fun x y => decide (x ≤ y)) = l.map kM := by
  refine List.Perm.eq_of_pairwise (le := fun a b => a ≤ b) (fun a b _ _ h1 h2 => List.le_antisymm h1 h2) ?_ ?_ ((List.mergeSort_perm _ _).trans hp)
  · have := List.pairwise_mergeSort (le := fun (x y : List UInt8) => decide (x ≤ y)) (fun a b c h1 h2 => by
      simp only [decide_eq_true_eq] at *
      exact List.le_trans h1 h2) (fun a b => by
      simp only [Bool.or_eq_true, decide_eq_true_eq]
      exact List.le_total a b) ss
    exact this.imp (fun h => of_decide_eq_true h)
  · rw [List.pairwise_map]
    exact h.imp (fun h => Std.le_of_lt h)
theorem isIn_names (l : List Me) (x : List UInt8) : isIn (namesM l) x = isM l x := by
  unfold isIn
  rw [names_keys, Bool.eq_iff_iff, List.contains_iff_mem]
  unfold isM
  rw [List.any_eq_true, List.mem_map]
  constructor
  · rintro ⟨m, hm, e⟩
    exact ⟨m, hm, decide_eq_true e⟩
  · rintro ⟨m, hm, e⟩
    exact ⟨m, hm, of_decide_eq_true e⟩
theorem wrong_names {l : List Me} (h : RisM l) (ha : ∀ x ∈ l, nameB x.f0 = true) : wrongL (namesM l) = 0 := by
  unfold wrongL
  rw [if_pos, if_pos]
  · rw [names_keys, List.Nodup, List.pairwise_map]
    refine List.Pairwise.imp ?_ h
    intro a b hlt e
    rw [e] at hlt
    exact lt_irr _ hlt
  · rw [List.all_eq_true]
    intro s hs
    obtain ⟨m, hm, rfl⟩ := List.mem_map.1 hs
    exact ha m hm
theorem name_size {x : ByteArray} (h : nameB x = true) : x.size ≤ 12 := by
  unfold nameB at h
  simp only [Bool.and_eq_true, decide_eq_true_eq] at h
  exact h.1.2
set_option maxHeartbeats 16000000 in
set_option maxRecDepth 100000 in
theorem members_calls (a b : Nat) (m : MG) (w : World) (hT : Tab w a b m) (hn : m.L.length ≤ 8) :
    Calls Try.prog 39 #[.pointer (some ⟨a, 0, none⟩)] w fun e w' => ∃ v, e = .returned v ∧ Kd.R Kd.string 9 w' w.heap.size (fun _ => True) v (namesM m.L) ∧ Below w.heap.size w w' := by
  have hc : w.cell? ⟨a, 4, none⟩ = some (.map (some b)) := hT.c 4
  have HO := Aside0.mk hT.own
  have HR := Aside0.mk hT.ris
  clear hT
  go_enter Try.func39, Try.ntmps39
  go_wp2_with fail
  refine (callsIn_wide.1 (Try.maps_Keys_91 (some b) w)).mono ?_
  rintro e w1 ⟨rfl, rfl⟩
  go_wp2_with fail
  refine (callsIn_wide.1 (Try.slices_Sorted_keys_75_91 b m.L.length (datM m.L) _ w HO.out (by rw [sizeM]; unfold maxLen; omega) (by rw [sizeM]; omega))).mono ?_
  rintro e w2 ⟨v, ss, rfl, hS, hrow, hnil, hb2⟩
  rw [keysM] at hS
  have e1 := sort_keys m.L HR.out ss hS
  have e2 : ss.length = (m.L.map kM).length := hS.length_eq
  rw [e1, e2] at hrow
  have HB := Aside0.mk (below_step (below_alloc (Below.refl _ _) (.cells #[.map (some b)] 143)) hb2 : Below w.heap.size w w2)
  have R0 : Kd.R kStr 9 w2 (w.alloc (.cells #[.map (some b)] 143)).heap.size (fun _ => True) v (m.L.map kM) := Kd.R_of_own (enc := encStr) (h1 := fun _ => rfl) (e := 9) (ok := fun _ => True) hrow (fun _ _ => trivial)
  have R1 := str_R R0
  rw [names_mkB] at R1
  have HR1 := Aside0.mk (Kd.R_lower R1 (base' := w.heap.size) (by simp))
  clear hrow R0 R1 hb2 hS e1 e2
  go_wp2_with fail
  go_ret
  exact ⟨_, rfl, HR1.out, HB.out⟩
/-- what a member has -/
def hasL (m : MG) (x : ByteArray) : List Int := if isM m.L x.toList = true then ofL (namesM m.L) m.p.toNat x.toList else []
theorem hasL_len (m : MG) (h : okM m) (x : ByteArray) : (hasL m x).length ≤ 4 := by
  unfold hasL
  split
  · have := ofL_none (namesM m.L) m.p.toNat x.toList
    have := h.p
    omega
  · simp
set_option maxHeartbeats 16000000 in
set_option maxRecDepth 100000 in
theorem has_calls (a b : Nat) (m : MG) (x : ByteArray) (hx : x.size ≤ 1000) (w : World) (hT : Tab w a b m) (hok : okM m) :
    Calls Try.prog 35 #[.pointer (some ⟨a, 0, none⟩), .string x] w fun e w' => ∃ v, e = .returned (.tuple #[v, .int .i64 (if isM m.L x.toList = true then 0 else 36)]) ∧ Kd.R (Kd.int .i64) 3 w' w.heap.size (fun _ => True) v (hasL m x) ∧ Below w.heap.size w w' := by
  have hund : ∀ b, some undef = some (Value.bool b) → False := fun b h => by simp [undef] at h
  have hip := Aside0.mk (is_calls a b m x hx w hT)
  have HT := Aside0.mk hT
  have hw0 := Aside0.mk (wrong_names hT.ris (fun y hy => (hok.a y hy).1))
  have HOK := Aside0.mk hok
  clear hT hok
  cases hi : isM m.L x.toList with
  | false =>
    have he : hasL m x = [] := by unfold hasL; rw [hi]; rfl
    rw [he]
    rw [hi] at hip
    clear he
    go_enter Try.func35, Try.ntmps35
    go_wp2_with fail
    refine hip.out.mono ?_
    rintro e w1 ⟨rfl, hb⟩
    have HB := Aside0.mk hb
    clear hb hip
    go_wp2_with fail
    exact bodyPost_ret (v := .tuple #[.slice none 0 0, .int .i64 36]) (by simp [results, Try.results35, go_sem]) rfl ⟨_, rfl, Kd.R_nil _ _ _ _ _, HB.out⟩
  | true =>
    have he : hasL m x = ofL (namesM m.L) m.p.toNat x.toList := by unfold hasL; rw [hi]; rfl
    rw [he]
    rw [hi] at hip
    have hp := HOK.out.p
    have hE : errOf (namesM m.L) m.p x.toList = 0 := by
      rw [errOf_in (errA_of hw0.out hp.1 hp.2), isIn_names, hi]
      rfl
    have hof := Aside0.mk (fun A c W (hA : Kd.C Kd.string W A (namesM m.L).length (namesM m.L)) => off_calls A c (namesM m.L) m.p x hx W hA (by rw [names_len]; have := HOK.out.n; omega) (fun s hs => by
      obtain ⟨y, hy, rfl⟩ := List.mem_map.1 hs
      have := name_size (HOK.out.a y hy).1
      omega))
    simp only [hE, if_true] at hof
    have hmem := Aside0.mk (fun W (k : Below w.heap.size w W) => members_calls a b m W (HT.out.later k) HOK.out.n)
    have HC0 := Aside0.mk (fun W (k : Below w.heap.size w W) => (HT.out.later k).c 0)
    generalize namesM m.L = nl at *
    generalize ofL nl m.p.toNat x.toList = zs at *
    clear he hE hp
    go_enter Try.func35, Try.ntmps35
    go_wp2_with fail
    refine hip.out.mono ?_
    rintro e w1 ⟨rfl, hb⟩
    have HB := Aside0.mk hb
    clear hb hip
    go_wp2_with fail
    have n_B := Aside0.mk (below_drew1 HB.out)
    clear HB
    have HB := n_B
    clear n_B
    refine start_ (n := 12) (S := fun w' => w'.cell? ⟨a, 0, none⟩ = some (.int .i64 m.p)) (ds := []) #[false, false, false, false, false, false, false, false, false, false, false, false] (by kernel_rfl) rfl rfl ((HC0.out _ HB.out).trans rfl) (fun _ => ?_)
    generalize w1.drew = V0 at *
    refine pure_ (i := 0) (N := some 14) (v := ?_) (a' := ?_) #[true, false, false, false, false, false, false, false, false, false, false, false] rfl rfl (by kernel_rfl) (fun _ _ _ h => h) (Or.inl ⟨by rfl, ?_⟩) ?_ ?_
    rotate_left
    · intro w'
      go_simp
      with_reducible rfl
    rotate_left
    · simp only [Act.put, List.setIfInBounds_toArray, List.set_cons_zero, List.set_cons_succ]
      rfl
    refine pure_ (i := 2) (N := some 16) (v := ?_) (a' := ?_) #[true, false, true, false, false, false, false, false, false, false, false, false] rfl rfl (by kernel_rfl) (fun _ _ _ h => h) (Or.inl ⟨by rfl, ?_⟩) ?_ ?_
    rotate_left
    · intro w'
      go_simp
      with_reducible rfl
    rotate_left
    · simp only [Act.put, List.setIfInBounds_toArray, List.set_cons_zero, List.set_cons_succ]
      rfl
    refine pure_ (i := 3) (N := some 17) (v := ?_) (a' := ?_) #[true, false, true, true, false, false, false, false, false, false, false, false] rfl rfl (by kernel_rfl) (fun _ _ _ h => h) (Or.inl ⟨by rfl, ?_⟩) ?_ ?_
    rotate_left
    · intro w'
      go_simp
      with_reducible rfl
    rotate_left
    · simp only [Act.put, List.setIfInBounds_toArray, List.set_cons_zero, List.set_cons_succ]
      rfl
    refine pure_ (i := 4) (N := some 18) (v := ?_) (a' := ?_) #[true, false, true, true, true, false, false, false, false, false, false, false] rfl rfl (by kernel_rfl) (fun _ _ _ h => h) (Or.inl ⟨by rfl, ?_⟩) ?_ ?_
    rotate_left
    · intro w'
      go_simp
      with_reducible rfl
    rotate_left
    · simp only [Act.put, List.setIfInBounds_toArray, List.set_cons_zero, List.set_cons_succ]
      rfl
    refine take_ (i := 5) (N := some 19) (v := ?_) (a' := ?_) #[true, false, true, true, true, true, false, false, false, false, false, false] rfl rfl (by kernel_rfl) (fun _ _ _ h => h) (Or.inl ⟨by rfl, ?_⟩) ((HC0.out _ HB.out).trans rfl) ?_ ?_
    rotate_left
    · intro w' hS
      obtain h1 := hS
      go_simp
      with_reducible rfl
    rotate_left
    · simp only [Act.put, List.setIfInBounds_toArray, List.set_cons_zero, List.set_cons_succ]
      rfl
    refine pure_ (i := 6) (N := some 20) (v := ?_) (a' := ?_) #[true, false, true, true, true, true, true, false, false, false, false, false] rfl rfl (by kernel_rfl) (fun _ _ _ h => h) (Or.inl ⟨by rfl, ?_⟩) ?_ ?_
    rotate_left
    · intro w'
      go_simp
      with_reducible rfl
    rotate_left
    · simp only [Act.put, List.setIfInBounds_toArray, List.set_cons_zero, List.set_cons_succ]
      rfl
    refine one_ (i := 1) (N := some 15) #[true, true, true, true, true, true, true, false, false, false, false, false] rfl rfl (by kernel_rfl) (by simp) (fun K hK => ?_)
    refine goes_ Try.func39 (by kernel_rfl) rfl #[.pointer (some ⟨a, 0, none⟩)] (by rfl) rfl rfl (by simp only [List.map_toArray, List.map_cons, List.map_nil] <;> rfl) ?_
    refine (hmem.out V0 HB.out).mono ?_
    rintro e V1 ⟨v1, rfl, hR1, hb⟩
    obtain ⟨A1, c1, rfl, hc1, hC1⟩ := Kd.R_reads hR1
    have n_HB := Aside0.mk (below_step HB.out hb)
    clear HB hb hR1
    have HB := n_HB
    clear n_HB
    have HC1 := Aside0.mk hC1
    clear hC1
    refine ⟨_, rfl, hK.out _ _ ((HC0.out _ HB.out).trans rfl) (fun _ => ?_)⟩
    clear hK K
    refine norm_ (a' := ?_) ?_ ?_
    rotate_left
    · simp only [Act.put, List.setIfInBounds_toArray, List.set_cons_zero, List.set_cons_succ]
      rfl
    refine one_ (i := 7) (N := some 21) #[true, true, true, true, true, true, true, true, false, false, false, false] rfl rfl (by kernel_rfl) (by simp) (fun K hK => ?_)
    refine goes_ Try.func19 (by kernel_rfl) rfl #[.slice A1 nl.length c1, .int .i64 m.p, .string x] (by rfl) rfl rfl (by simp only [List.map_toArray, List.map_cons, List.map_nil] <;> rfl) ?_
    refine (hof.out A1 c1 V1 HC1.out).mono ?_
    rintro e V2 ⟨v2, rfl, hR2, hb⟩
    have HR2 := Aside0.mk (Kd.R_lower hR2 HB.out.size)
    have n_HB := Aside0.mk (below_step HB.out hb)
    clear HB hb hR2
    have HB := n_HB
    clear n_HB
    refine ⟨_, rfl, hK.out _ _ ((HC0.out _ HB.out).trans rfl) (fun _ => ?_)⟩
    clear hK K
    refine norm_ (a' := ?_) ?_ ?_
    rotate_left
    · simp only [Act.put, List.setIfInBounds_toArray, List.set_cons_zero, List.set_cons_succ]
      rfl
    refine pure_ (i := 8) (N := some 22) (v := ?_) (a' := ?_) #[true, true, true, true, true, true, true, true, true, false, false, false] rfl rfl (by kernel_rfl) (fun _ _ _ h => h) (Or.inl ⟨by rfl, ?_⟩) ?_ ?_
    rotate_left
    · intro w'
      go_simp
      with_reducible rfl
    rotate_left
    · simp only [Act.put, List.setIfInBounds_toArray, List.set_cons_zero, List.set_cons_succ]
      rfl
    refine pure_ (i := 9) (N := some 23) (v := ?_) (a' := ?_) #[true, true, true, true, true, true, true, true, true, true, false, false] rfl rfl (by kernel_rfl) (fun _ _ _ h => h) (Or.inl ⟨by rfl, ?_⟩) ?_ ?_
    rotate_left
    · intro w'
      go_simp
      with_reducible rfl
    rotate_left
    · simp only [Act.put, List.setIfInBounds_toArray, List.set_cons_zero, List.set_cons_succ]
      rfl
    refine pure_ (i := 10) (N := some 4) (v := ?_) (a' := ?_) #[true, true, true, true, true, true, true, true, true, true, true, false] rfl rfl (by kernel_rfl) (fun _ _ _ h => h) (Or.inl ⟨by rfl, ?_⟩) ?_ ?_
    rotate_left
    · intro w'
      go_simp
      with_reducible rfl
    rotate_left
    · simp only [Act.put, List.setIfInBounds_toArray, List.set_cons_zero, List.set_cons_succ]
      rfl
    refine pure_ (i := 11) (N := some 5) (v := ?_) (a' := ?_) #[true, true, true, true, true, true, true, true, true, true, true, true] rfl rfl (by kernel_rfl) (fun _ _ _ h => h) (Or.inl ⟨by rfl, ?_⟩) ?_ ?_
    rotate_left
    · intro w'
      go_simp
      with_reducible rfl
    rotate_left
    · simp only [Act.put, List.setIfInBounds_toArray, List.set_cons_zero, List.set_cons_succ]
      rfl
    refine done_ (by kernel_rfl) ?_
    go_wp2_with fail
    exact bodyPost_ret (v := .tuple #[v2, .int .i64 0]) (by simp [results, Try.results35, go_sem]) rfl ⟨_, rfl, HR2.out, HB.out⟩
end Go.Proofs.Ytohhlkabejangaa.Mb

namespace Go.Proofs.Ytohhlkabejangaa.Mb
set_option linter.unusedVariables false
set_option linter.unusedSimpArgs false
open Go.RowKit Go.Maps Go.Sort Go.Proofs.YtohhlkabejangaaW.PrintWords Go.Proofs.YtohhlkabejangaaW.PrintLast Go.Proofs.YtohhlkabejangaaW.PrintMore Go.Proofs.Ytohhlkabejangaa.PAs Go.Proofs.Ytohhlkabejangaa.As
/-! ### what Join, Leave and Beat come to, behind the sweep -/
def setM (m : MG) (x : ByteArray) (slot : Int) : MG := { m with L := putM m.L ⟨x, slot⟩ }
def jn (m : MG) (x : ByteArray) (slot : Int) : MG × Int × Int :=
  if isM m.L x.toList = true then (setM m x slot, m.g, 0) else if m.L.length = 8 then (m, 0, 5) else (setM { m with g := m.g + 1 } x slot, m.g + 1, 0)
def lv (m : MG) (x : ByteArray) : MG × Int := if isM m.L x.toList = true then ({ m with g := m.g + 1, L := delM m.L x.toList }, 0) else (m, 36)
def bt (m : MG) (x : ByteArray) (gen slot : Int) : MG × Int := if isM m.L x.toList = true then (if gen = m.g then (setM m x slot, 0) else (m, 35)) else (m, 36)
def joinM (m : MG) (x : ByteArray) (slot : Int) : MG × Int × Int := if begB m x slot = true then jn (sweepM m slot) x slot else (m, 0, 1)
def leaveM (m : MG) (x : ByteArray) (slot : Int) : MG × Int := if begB m x slot = true then lv (sweepM m slot) x else (m, 1)
def beatM (m : MG) (x : ByteArray) (gen slot : Int) : MG × Int := if begB m x slot = true then bt (sweepM m slot) x gen slot else (m, 1)
def swpM (m : MG) (slot : Int) : MG × Int := if okS m slot = true then (sweepM m slot, outM m slot) else (m, 0)
theorem okM_set {m : MG} (h : okM m) (hr : RisM m.L) {x : ByteArray} {slot : Int} (hx : nameB x = true) (hs : 0 ≤ slot ∧ slot ≤ 1099511627776) (hn : isM m.L x.toList = true ∨ m.L.length ≠ 8) : okM (setM m x slot) := by
  refine ⟨h.p, h.w, h.g, h.s, ?_, fun y hy => ?_⟩
  · show (putM m.L ⟨x, slot⟩).length ≤ 8
    rw [putM_len _ _ hr]
    have h8 := h.n
    split
    · exact h8
    · rename_i h1
      rcases hn with h2 | h2
      · exact (h1 h2).elim
      · omega
  · rcases putM_mem _ _ _ hy with rfl | hy
    · exact ⟨hx, hs⟩
    · exact h.a y hy
theorem okM_gen {m : MG} (h : okM m) : okM { m with g := m.g + 1 } := ⟨h.p, h.w, by have := h.g; show 0 ≤ m.g + 1; omega, h.s, h.n, h.a⟩
theorem okM_del {m : MG} (h : okM m) (x : List UInt8) : okM { m with L := delM m.L x } := ⟨h.p, h.w, h.g, h.s, Nat.le_trans (List.length_filter_le _ _) h.n, fun y hy => h.a y (List.mem_filter.1 hy).1⟩
theorem beg_parts {m : MG} {x : ByteArray} {slot : Int} (h : begB m x slot = true) (hok : okM m) : nameB x = true ∧ okS m slot = true ∧ 0 ≤ slot ∧ slot ≤ 1099511627776 := by
  unfold begB at h
  rw [Bool.and_eq_true] at h
  have h2 := h.2
  unfold okS at h2
  simp only [Bool.and_eq_true, decide_eq_true_eq] at h2
  have := hok.s
  exact ⟨h.1, h.2, by omega, h2.2⟩
theorem okM_join {m : MG} (h : okM m) (hr : RisM m.L) (x : ByteArray) (slot : Int) : okM (joinM m x slot).1 := by
  unfold joinM
  split
  · rename_i hb
    obtain ⟨h1, h2, h3⟩ := beg_parts hb h
    have hk := okM_sweep h h2
    have hr2 : RisM (sweepM m slot).L := ris_filter hr _
    unfold jn
    split
    · rename_i hi
      exact okM_set hk hr2 h1 h3 (.inl hi)
    · split
      · exact hk
      · rename_i h8
        exact okM_set (m := { sweepM m slot with g := (sweepM m slot).g + 1 }) (okM_gen hk) hr2 h1 h3 (.inr h8)
  · exact h
theorem okM_leave {m : MG} (h : okM m) (x : ByteArray) (slot : Int) : okM (leaveM m x slot).1 := by
  unfold leaveM
  split
  · rename_i hb
    obtain ⟨h1, h2, h3⟩ := beg_parts hb h
    have hk := okM_sweep h h2
    unfold lv
    split
    · exact okM_gen (okM_del hk x.toList)
    · exact hk
  · exact h
theorem okM_beat {m : MG} (h : okM m) (hr : RisM m.L) (x : ByteArray) (gen slot : Int) : okM (beatM m x gen slot).1 := by
  unfold beatM
  split
  · rename_i hb
    obtain ⟨h1, h2, h3⟩ := beg_parts hb h
    have hk := okM_sweep h h2
    have hr2 : RisM (sweepM m slot).L := ris_filter hr _
    unfold bt
    split
    · rename_i hi
      split
      · exact okM_set hk hr2 h1 h3 (.inl hi)
      · exact hk
    · exact hk
  · exact h
theorem okM_swp {m : MG} (h : okM m) (slot : Int) : okM (swpM m slot).1 := by
  unfold swpM
  split
  · rename_i hs
    exact okM_sweep h hs
  · exact h
set_option maxHeartbeats 16000000 in
set_option maxRecDepth 100000 in
theorem join_calls (a b : Nat) (m : MG) (x : ByteArray) (slot : Int) (hx : x.size ≤ 1000) (w : World) (hT : Tab w a b m) (hok : okM m) (hg : m.g ≤ 1000000) :
    Calls Try.prog 34 #[.pointer (some ⟨a, 0, none⟩), .string x, .int .i64 slot] w fun e w' => e = .returned (.tuple #[.int .i64 (joinM m x slot).2.1, .int .i64 (joinM m x slot).2.2]) ∧ Tab w' a b (joinM m x slot).1 ∧ Far w w' a b := by
  have hund : ∀ b, some undef = some (Value.bool b) → False := fun b h => by simp [undef] at h
  have hbg := Aside0.mk (begin_calls a b m x slot hx w hT hok hg)
  have hgs : (sweepM m slot).g ≤ 1000001 := by
    unfold sweepM
    simp only []
    split <;> omega
  have hg0 : 0 ≤ (sweepM m slot).g := by
    have := hok.g
    unfold sweepM
    simp only []
    split <;> omega
  have hn8 : (sweepM m slot).L.length ≤ 8 := Nat.le_trans (List.length_filter_le _ _) hok.n
  have hslot := fun hb : begB m x slot = true => (beg_parts hb hok).2.2
  clear hT hok
  cases hb : begB m x slot with
  | false =>
    rw [hb, show begM m x slot = m by unfold begM; rw [hb]; rfl] at hbg
    have he : joinM m x slot = (m, 0, 1) := by unfold joinM; rw [hb]; rfl
    rw [he]
    clear he hslot
    go_enter Try.func34, Try.ntmps34
    go_wp2_with fail
    refine hbg.out.mono ?_
    rintro e w1 ⟨rfl, hT1, hF1⟩
    have HT := Aside0.mk hT1
    have HF := Aside0.mk hF1
    clear hT1 hF1 hbg
    go_wp2_with fail
    exact bodyPost_ret (v := .tuple #[.int .i64 0, .int .i64 1]) (by simp [results, Try.results34, go_sem]) rfl ⟨rfl, HT.out, HF.out⟩
  | true =>
    rw [hb, show begM m x slot = sweepM m slot by unfold begM; rw [hb]; rfl] at hbg
    have he : joinM m x slot = jn (sweepM m slot) x slot := by unfold joinM; rw [hb]; rfl
    rw [he]
    have hs := hslot hb
    clear he hslot hb
    generalize sweepM m slot = m1 at *
    unfold jn
    obtain ⟨bi, hbi⟩ : ∃ bi, isM m1.L x.toList = bi := ⟨_, rfl⟩
    cases bi with
    | true =>
      rw [if_pos hbi]
      go_enter Try.func34, Try.ntmps34
      go_wp2_with fail
      refine hbg.out.mono ?_
      rintro e w1 ⟨rfl, hT1, hF1⟩
      have HT := Aside0.mk hT1
      have HF := Aside0.mk hF1
      clear hT1 hF1 hbg
      go_wp2_with fail
      refine (is_calls a b m1 x hx w1 HT.out).mono ?_
      rw [hbi]
      rintro e w2 ⟨rfl, hb2⟩
      have n_HT := Aside0.mk (HT.out.later hb2)
      have n_HF := Aside0.mk (HF.out.trans (Far.below hb2))
      clear HT HF hb2
      have HT := n_HT
      have HF := n_HF
      clear n_HT n_HF
      have hc4 : w2.cell? ⟨a, 4, none⟩ = some (.map (some b)) := HT.out.c 4
      have hc2 : w2.cell? ⟨a, 2, none⟩ = some (.int .i64 m1.g) := HT.out.c 2
      have hz2 : w2.frozen? ⟨a, 2, none⟩ = false := HT.out.z 2
      go_wp2_with (first
        | (at_mapUpdate; refine wpList_mapUpdate_own _ rfl _ _ _ 143 rfl 9 3 str_law Try.underlying143 _ b m1.L.length _ rfl HT.out.own (by unfold maxLen; omega) _ _ _ rfl rfl (key_B x hx) _ [] (plainElem_int Try.underlying3 (WalkArith.wf_i64 (by omega))) ?_; intro w5 hown hgr; have n_HT := Aside0.mk (show Tab w5 a b (setM m1 x slot) from HT.out.turn hgr (by rw [← putM_eq _ _ HT.out.ris]; exact hown) (putM_ris _ _ HT.out.ris)); have n_HF := Aside0.mk (HF.out.trans (Far.grown hgr)); clear HT HF hown hgr; have HT := n_HT; have HF := n_HF; clear n_HT n_HF; have hcg : w5.cell? ⟨a, 2, none⟩ = some (.int .i64 m1.g) := HT.out.c 2))
      exact bodyPost_ret (v := .tuple #[.int .i64 m1.g, .int .i64 0]) (by simp [results, Try.results34, go_sem]) rfl ⟨rfl, HT.out, HF.out⟩
    | false =>
      rw [if_neg (by rw [hbi]; decide)]
      by_cases h8 : m1.L.length = 8
      · rw [if_pos h8]
        have d8 : ((m1.L.length : Int) == 8) = true := by rw [h8]; rfl
        clear h8
        go_enter Try.func34, Try.ntmps34
        go_wp2_with fail
        refine hbg.out.mono ?_
        rintro e w1 ⟨rfl, hT1, hF1⟩
        have HT := Aside0.mk hT1
        have HF := Aside0.mk hF1
        clear hT1 hF1 hbg
        go_wp2_with fail
        refine (is_calls a b m1 x hx w1 HT.out).mono ?_
        rw [hbi]
        rintro e w2 ⟨rfl, hb2⟩
        have n_HT := Aside0.mk (HT.out.later hb2)
        have n_HF := Aside0.mk (HF.out.trans (Far.below hb2))
        clear HT HF hb2
        have HT := n_HT
        have HF := n_HF
        clear n_HT n_HF
        have hc4 : w2.cell? ⟨a, 4, none⟩ = some (.map (some b)) := HT.out.c 4
        have hc2 : w2.cell? ⟨a, 2, none⟩ = some (.int .i64 m1.g) := HT.out.c 2
        have hz2 : w2.frozen? ⟨a, 2, none⟩ = false := HT.out.z 2
        have hlen := fun ty => HT.out.len ty
        go_wp2_with fail
        exact bodyPost_ret (v := .tuple #[.int .i64 0, .int .i64 5]) (by simp [results, Try.results34, go_sem]) rfl ⟨rfl, HT.out, HF.out⟩
      · rw [if_neg h8]
        have d8 : ((m1.L.length : Int) == 8) = false := beq_eq_false_iff_ne.2 (by omega)
        clear h8
        have hw1 : wrap64 (m1.g + 1) = m1.g + 1 := w64 _ (by omega) (by omega)
        have hw2 : IntKind.i64.wrap (m1.g + 1) = m1.g + 1 := IntWalk.i64_in _ (by omega)
        go_enter Try.func34, Try.ntmps34
        go_wp2_with fail
        refine hbg.out.mono ?_
        rintro e w1 ⟨rfl, hT1, hF1⟩
        have HT := Aside0.mk hT1
        have HF := Aside0.mk hF1
        clear hT1 hF1 hbg
        go_wp2_with fail
        refine (is_calls a b m1 x hx w1 HT.out).mono ?_
        rw [hbi]
        rintro e w2 ⟨rfl, hb2⟩
        have n_HT := Aside0.mk (HT.out.later hb2)
        have n_HF := Aside0.mk (HF.out.trans (Far.below hb2))
        clear HT HF hb2
        have HT := n_HT
        have HF := n_HF
        clear n_HT n_HF
        have hc4 : w2.cell? ⟨a, 4, none⟩ = some (.map (some b)) := HT.out.c 4
        have hc2 : w2.cell? ⟨a, 2, none⟩ = some (.int .i64 m1.g) := HT.out.c 2
        have hz2 : w2.frozen? ⟨a, 2, none⟩ = false := HT.out.z 2
        have hlen := fun ty => HT.out.len ty
        go_upto_region 8 with fail
        have n_T := Aside0.mk (HT.out.set 2 (.int .i64 (m1.g + 1)) (m' := { m1 with g := m1.g + 1 }) rfl rfl)
        have n_F := Aside0.mk (HF.out.trans (Far.set w2 a b 2 (.int .i64 (m1.g + 1))))
        clear HT HF hc4 hc2 hz2 hlen
        generalize w2.setCell ⟨a, 2, none⟩ (.int .i64 (m1.g + 1)) = w4 at *
        have HT := n_T
        have HF := n_F
        clear n_T n_F
        have hc4 : w4.cell? ⟨a, 4, none⟩ = some (.map (some b)) := HT.out.c 4
        go_wp2_with (first
          | (at_mapUpdate; refine wpList_mapUpdate_own _ rfl _ _ _ 143 rfl 9 3 str_law Try.underlying143 _ b m1.L.length _ rfl HT.out.own (by unfold maxLen; omega) _ _ _ rfl rfl (key_B x hx) _ [] (plainElem_int Try.underlying3 (WalkArith.wf_i64 (by omega))) ?_; intro w5 hown hgr; have n_HT := Aside0.mk (show Tab w5 a b (setM { m1 with g := m1.g + 1 } x slot) from HT.out.turn hgr (by rw [← putM_eq _ _ HT.out.ris]; exact hown) (putM_ris _ _ HT.out.ris)); have n_HF := Aside0.mk (HF.out.trans (Far.grown hgr)); clear HT HF hown hgr; have HT := n_HT; have HF := n_HF; clear n_HT n_HF; have hcg : w5.cell? ⟨a, 2, none⟩ = some (.int .i64 (m1.g + 1)) := HT.out.c 2))
        exact bodyPost_ret (v := .tuple #[.int .i64 (m1.g + 1), .int .i64 0]) (by simp [results, Try.results34, go_sem]) rfl ⟨rfl, HT.out, HF.out⟩
set_option maxHeartbeats 16000000 in
set_option maxRecDepth 100000 in
theorem leave_calls (a b : Nat) (m : MG) (x : ByteArray) (slot : Int) (hx : x.size ≤ 1000) (w : World) (hT : Tab w a b m) (hok : okM m) (hg : m.g ≤ 1000000) :
    Calls Try.prog 36 #[.pointer (some ⟨a, 0, none⟩), .string x, .int .i64 slot] w fun e w' => e = .returned (.int .i64 (leaveM m x slot).2) ∧ Tab w' a b (leaveM m x slot).1 ∧ Far w w' a b := by
  have hund : ∀ b, some undef = some (Value.bool b) → False := fun b h => by simp [undef] at h
  have hbg := Aside0.mk (begin_calls a b m x slot hx w hT hok hg)
  have hgs : (sweepM m slot).g ≤ 1000001 := by
    unfold sweepM
    simp only []
    split <;> omega
  have hg0 : 0 ≤ (sweepM m slot).g := by
    have := hok.g
    unfold sweepM
    simp only []
    split <;> omega
  have hn8 : (sweepM m slot).L.length ≤ 8 := Nat.le_trans (List.length_filter_le _ _) hok.n
  have hslot := fun hb : begB m x slot = true => (beg_parts hb hok).2.2
  clear hT hok
  cases hb : begB m x slot with
  | false =>
    rw [hb, show begM m x slot = m by unfold begM; rw [hb]; rfl] at hbg
    have he : leaveM m x slot = (m, 1) := by unfold leaveM; rw [hb]; rfl
    rw [he]
    clear he hslot
    go_enter Try.func36, Try.ntmps36
    go_wp2_with fail
    refine hbg.out.mono ?_
    rintro e w1 ⟨rfl, hT1, hF1⟩
    have HT := Aside0.mk hT1
    have HF := Aside0.mk hF1
    clear hT1 hF1 hbg
    go_wp2_with fail
    go_ret
    exact ⟨rfl, HT.out, HF.out⟩
  | true =>
    rw [hb, show begM m x slot = sweepM m slot by unfold begM; rw [hb]; rfl] at hbg
    have he : leaveM m x slot = lv (sweepM m slot) x := by unfold leaveM; rw [hb]; rfl
    rw [he]
    have hs := hslot hb
    clear he hslot hb
    generalize sweepM m slot = m1 at *
    unfold lv
    obtain ⟨bi, hbi⟩ : ∃ bi, isM m1.L x.toList = bi := ⟨_, rfl⟩
    cases bi with
    | false =>
      rw [if_neg (by rw [hbi]; decide)]
      go_enter Try.func36, Try.ntmps36
      go_wp2_with fail
      refine hbg.out.mono ?_
      rintro e w1 ⟨rfl, hT1, hF1⟩
      have HT := Aside0.mk hT1
      have HF := Aside0.mk hF1
      clear hT1 hF1 hbg
      go_wp2_with fail
      refine (is_calls a b m1 x hx w1 HT.out).mono ?_
      rw [hbi]
      rintro e w2 ⟨rfl, hb2⟩
      have n_HT := Aside0.mk (HT.out.later hb2)
      have n_HF := Aside0.mk (HF.out.trans (Far.below hb2))
      clear HT HF hb2
      have HT := n_HT
      have HF := n_HF
      clear n_HT n_HF
      go_wp2_with fail
      go_ret
      exact ⟨rfl, HT.out, HF.out⟩
    | true =>
      rw [if_pos hbi]
      have hw1 : wrap64 (m1.g + 1) = m1.g + 1 := w64 _ (by omega) (by omega)
      have hw2 : IntKind.i64.wrap (m1.g + 1) = m1.g + 1 := IntWalk.i64_in _ (by omega)
      go_enter Try.func36, Try.ntmps36
      go_wp2_with fail
      refine hbg.out.mono ?_
      rintro e w1 ⟨rfl, hT1, hF1⟩
      have HT := Aside0.mk hT1
      have HF := Aside0.mk hF1
      clear hT1 hF1 hbg
      go_wp2_with fail
      refine (is_calls a b m1 x hx w1 HT.out).mono ?_
      rw [hbi]
      rintro e w2 ⟨rfl, hb2⟩
      have n_HT := Aside0.mk (HT.out.later hb2)
      have n_HF := Aside0.mk (HF.out.trans (Far.below hb2))
      clear HT HF hb2
      have HT := n_HT
      have HF := n_HF
      clear n_HT n_HF
      have hc4 : w2.cell? ⟨a, 4, none⟩ = some (.map (some b)) := HT.out.c 4
      have hc2 : w2.cell? ⟨a, 2, none⟩ = some (.int .i64 m1.g) := HT.out.c 2
      have hz2 : w2.frozen? ⟨a, 2, none⟩ = false := HT.out.z 2
      go_wp2_with (first
        | (at_delete; refine wpList_delete_own _ rfl _ _ 143 9 rfl 3 str_law Try.underlying143 _ b m1.L.length _ rfl HT.out.own _ _ rfl (key_B x hx) ?_; intro w5 hown hturn; have n_HT := Aside0.mk (show Tab w5 a b { m1 with L := delM m1.L x.toList } from HT.out.turn hturn.grown (by rw [← delM_eq]; exact hown) (ris_filter HT.out.ris _)); have n_HF := Aside0.mk (HF.out.trans (Far.grown hturn.grown)); clear HT HF hown hturn hc2 hz2; have HT := n_HT; have HF := n_HF; clear n_HT n_HF; have hcg : w5.cell? ⟨a, 2, none⟩ = some (.int .i64 m1.g) := HT.out.c 2; have hzg : w5.frozen? ⟨a, 2, none⟩ = false := HT.out.z 2))
      go_ret
      exact ⟨rfl, HT.out.set 2 (.int .i64 (m1.g + 1)) rfl rfl, HF.out.trans (Far.set _ _ _ _ _)⟩
set_option maxHeartbeats 16000000 in
set_option maxRecDepth 100000 in
theorem beat_calls (a b : Nat) (m : MG) (x : ByteArray) (gen slot : Int) (hx : x.size ≤ 1000) (w : World) (hT : Tab w a b m) (hok : okM m) (hg : m.g ≤ 1000000) :
    Calls Try.prog 37 #[.pointer (some ⟨a, 0, none⟩), .string x, .int .i64 gen, .int .i64 slot] w fun e w' => e = .returned (.int .i64 (beatM m x gen slot).2) ∧ Tab w' a b (beatM m x gen slot).1 ∧ Far w w' a b := by
  have hund : ∀ b, some undef = some (Value.bool b) → False := fun b h => by simp [undef] at h
  have hbg := Aside0.mk (begin_calls a b m x slot hx w hT hok hg)
  have hgs : (sweepM m slot).g ≤ 1000001 := by
    unfold sweepM
    simp only []
    split <;> omega
  have hg0 : 0 ≤ (sweepM m slot).g := by
    have := hok.g
    unfold sweepM
    simp only []
    split <;> omega
  have hn8 : (sweepM m slot).L.length ≤ 8 := Nat.le_trans (List.length_filter_le _ _) hok.n
  have hslot := fun hb : begB m x slot = true => (beg_parts hb hok).2.2
  clear hT hok
  cases hb : begB m x slot with
  | false =>
    rw [hb, show begM m x slot = m by unfold begM; rw [hb]; rfl] at hbg
    have he : beatM m x gen slot = (m, 1) := by unfold beatM; rw [hb]; rfl
    rw [he]
    clear he hslot
    go_enter Try.func37, Try.ntmps37
    go_wp2_with fail
    refine hbg.out.mono ?_
    rintro e w1 ⟨rfl, hT1, hF1⟩
    have HT := Aside0.mk hT1
    have HF := Aside0.mk hF1
    clear hT1 hF1 hbg
    go_wp2_with fail
    go_ret
    exact ⟨rfl, HT.out, HF.out⟩
  | true =>
    rw [hb, show begM m x slot = sweepM m slot by unfold begM; rw [hb]; rfl] at hbg
    have he : beatM m x gen slot = bt (sweepM m slot) x gen slot := by unfold beatM; rw [hb]; rfl
    rw [he]
    have hs := hslot hb
    clear he hslot hb
    generalize sweepM m slot = m1 at *
    unfold bt
    obtain ⟨bi, hbi⟩ : ∃ bi, isM m1.L x.toList = bi := ⟨_, rfl⟩
    cases bi with
    | false =>
      rw [if_neg (by rw [hbi]; decide)]
      go_enter Try.func37, Try.ntmps37
      go_wp2_with fail
      refine hbg.out.mono ?_
      rintro e w1 ⟨rfl, hT1, hF1⟩
      have HT := Aside0.mk hT1
      have HF := Aside0.mk hF1
      clear hT1 hF1 hbg
      go_wp2_with fail
      refine (is_calls a b m1 x hx w1 HT.out).mono ?_
      rw [hbi]
      rintro e w2 ⟨rfl, hb2⟩
      have n_HT := Aside0.mk (HT.out.later hb2)
      have n_HF := Aside0.mk (HF.out.trans (Far.below hb2))
      clear HT HF hb2
      have HT := n_HT
      have HF := n_HF
      clear n_HT n_HF
      go_wp2_with fail
      go_ret
      exact ⟨rfl, HT.out, HF.out⟩
    | true =>
      rw [if_pos hbi]
      by_cases hge : gen = m1.g
      · rw [if_pos hge]
        have d8 : (gen != m1.g) = false := by rw [hge]; simp
        clear hge
        go_enter Try.func37, Try.ntmps37
        go_wp2_with fail
        refine hbg.out.mono ?_
        rintro e w1 ⟨rfl, hT1, hF1⟩
        have HT := Aside0.mk hT1
        have HF := Aside0.mk hF1
        clear hT1 hF1 hbg
        go_wp2_with fail
        refine (is_calls a b m1 x hx w1 HT.out).mono ?_
        rw [hbi]
        rintro e w2 ⟨rfl, hb2⟩
        have n_HT := Aside0.mk (HT.out.later hb2)
        have n_HF := Aside0.mk (HF.out.trans (Far.below hb2))
        clear HT HF hb2
        have HT := n_HT
        have HF := n_HF
        clear n_HT n_HF
        have hc4 : w2.cell? ⟨a, 4, none⟩ = some (.map (some b)) := HT.out.c 4
        have hc2 : w2.cell? ⟨a, 2, none⟩ = some (.int .i64 m1.g) := HT.out.c 2
        have hz2 : w2.frozen? ⟨a, 2, none⟩ = false := HT.out.z 2
        go_wp2_with (first
          | (at_mapUpdate; refine wpList_mapUpdate_own _ rfl _ _ _ 143 rfl 9 3 str_law Try.underlying143 _ b m1.L.length _ rfl HT.out.own (by unfold maxLen; omega) _ _ _ rfl rfl (key_B x hx) _ [] (plainElem_int Try.underlying3 (WalkArith.wf_i64 (by omega))) ?_; intro w5 hown hgr; have n_HT := Aside0.mk (show Tab w5 a b (setM m1 x slot) from HT.out.turn hgr (by rw [← putM_eq _ _ HT.out.ris]; exact hown) (putM_ris _ _ HT.out.ris)); have n_HF := Aside0.mk (HF.out.trans (Far.grown hgr)); clear HT HF hown hgr; have HT := n_HT; have HF := n_HF; clear n_HT n_HF; have hcg : w5.cell? ⟨a, 2, none⟩ = some (.int .i64 m1.g) := HT.out.c 2))
        go_ret
        exact ⟨rfl, HT.out, HF.out⟩
      · rw [if_neg hge]
        have d8 : (gen != m1.g) = true := by simpa using hge
        clear hge
        go_enter Try.func37, Try.ntmps37
        go_wp2_with fail
        refine hbg.out.mono ?_
        rintro e w1 ⟨rfl, hT1, hF1⟩
        have HT := Aside0.mk hT1
        have HF := Aside0.mk hF1
        clear hT1 hF1 hbg
        go_wp2_with fail
        refine (is_calls a b m1 x hx w1 HT.out).mono ?_
        rw [hbi]
        rintro e w2 ⟨rfl, hb2⟩
        have n_HT := Aside0.mk (HT.out.later hb2)
        have n_HF := Aside0.mk (HF.out.trans (Far.below hb2))
        clear HT HF hb2
        have HT := n_HT
        have HF := n_HF
        clear n_HT n_HF
        have hc4 : w2.cell? ⟨a, 4, none⟩ = some (.map (some b)) := HT.out.c 4
        have hc2 : w2.cell? ⟨a, 2, none⟩ = some (.int .i64 m1.g) := HT.out.c 2
        have hz2 : w2.frozen? ⟨a, 2, none⟩ = false := HT.out.z 2
        go_wp2_with fail
        go_ret
        exact ⟨rfl, HT.out, HF.out⟩
end Go.Proofs.Ytohhlkabejangaa.Mb

namespace Go.Proofs.Ytohhlkabejangaa.Mb
set_option linter.unusedVariables false
set_option linter.unusedSimpArgs false
open Go.RowKit Go.Maps Go.Sort Go.Proofs.YtohhlkabejangaaW.PrintWords Go.Proofs.YtohhlkabejangaaW.PrintLast Go.Proofs.YtohhlkabejangaaW.PrintMore Go.Proofs.Ytohhlkabejangaa.PAs Go.Proofs.Ytohhlkabejangaa.As
set_option maxHeartbeats 16000000 in
set_option maxRecDepth 100000 in
theorem nil_begin (x : ByteArray) (slot : Int) (w : World) : Calls Try.prog 87 #[.pointer none, .string x, .int .i64 slot] w fun e w' => e = .returned (.int .i64 7) ∧ Below w.heap.size w w' := by
  go_enter Try.func87, Try.ntmps87
  go_wp2_with fail
  go_ret
  exact ⟨rfl, Below.refl _ _⟩
set_option maxHeartbeats 16000000 in
set_option maxRecDepth 100000 in
theorem nil_join (x : ByteArray) (slot : Int) (w : World) : Calls Try.prog 34 #[.pointer none, .string x, .int .i64 slot] w fun e w' => e = .returned (.tuple #[.int .i64 0, .int .i64 7]) ∧ Below w.heap.size w w' := by
  go_enter Try.func34, Try.ntmps34
  go_wp2_with fail
  refine (nil_begin x slot w).mono ?_
  rintro e w1 ⟨rfl, hb⟩
  have HB := Aside0.mk hb
  clear hb
  go_wp2_with fail
  exact bodyPost_ret (v := .tuple #[.int .i64 0, .int .i64 7]) (by simp [results, Try.results34, go_sem]) rfl ⟨rfl, HB.out⟩
set_option maxHeartbeats 16000000 in
set_option maxRecDepth 100000 in
theorem nil_leave (x : ByteArray) (slot : Int) (w : World) : Calls Try.prog 36 #[.pointer none, .string x, .int .i64 slot] w fun e w' => e = .returned (.int .i64 7) ∧ Below w.heap.size w w' := by
  go_enter Try.func36, Try.ntmps36
  go_wp2_with fail
  refine (nil_begin x slot w).mono ?_
  rintro e w1 ⟨rfl, hb⟩
  have HB := Aside0.mk hb
  clear hb
  go_wp2_with fail
  go_ret
  exact ⟨rfl, HB.out⟩
set_option maxHeartbeats 16000000 in
set_option maxRecDepth 100000 in
theorem nil_beat (x : ByteArray) (gen slot : Int) (w : World) : Calls Try.prog 37 #[.pointer none, .string x, .int .i64 gen, .int .i64 slot] w fun e w' => e = .returned (.int .i64 7) ∧ Below w.heap.size w w' := by
  go_enter Try.func37, Try.ntmps37
  go_wp2_with fail
  refine (nil_begin x slot w).mono ?_
  rintro e w1 ⟨rfl, hb⟩
  have HB := Aside0.mk hb
  clear hb
  go_wp2_with fail
  go_ret
  exact ⟨rfl, HB.out⟩
set_option maxHeartbeats 16000000 in
set_option maxRecDepth 100000 in
theorem nil_sweep (slot : Int) (w : World) : Calls Try.prog 38 #[.pointer none, .int .i64 slot] w fun e w' => e = .returned (.int .i64 0) ∧ Below w.heap.size w w' := by
  have hund : ∀ b, some undef = some (Value.bool b) → False := fun b h => by simp [undef] at h
  go_enter Try.func38, Try.ntmps38
  go_wp2_with fail
  go_ret
  exact ⟨rfl, Below.refl _ _⟩
set_option maxHeartbeats 16000000 in
set_option maxRecDepth 100000 in
theorem nil_members (w : World) : Calls Try.prog 39 #[.pointer none] w fun e w' => e = .returned (.slice none 0 0) ∧ Below w.heap.size w w' := by
  have hund : ∀ b, some undef = some (Value.bool b) → False := fun b h => by simp [undef] at h
  go_enter Try.func39, Try.ntmps39
  go_wp2_with fail
  go_ret
  exact ⟨rfl, Below.refl _ _⟩
set_option maxHeartbeats 16000000 in
set_option maxRecDepth 100000 in
theorem nil_gen (w : World) : Calls Try.prog 40 #[.pointer none] w fun e w' => e = .returned (.int .i64 0) ∧ Below w.heap.size w w' := by
  have hund : ∀ b, some undef = some (Value.bool b) → False := fun b h => by simp [undef] at h
  go_enter Try.func40, Try.ntmps40
  go_wp2_with fail
  go_ret
  exact ⟨rfl, Below.refl _ _⟩
set_option maxHeartbeats 16000000 in
set_option maxRecDepth 100000 in
theorem nil_parts (w : World) : Calls Try.prog 41 #[.pointer none] w fun e w' => e = .returned (.int .i64 0) ∧ Below w.heap.size w w' := by
  have hund : ∀ b, some undef = some (Value.bool b) → False := fun b h => by simp [undef] at h
  go_enter Try.func41, Try.ntmps41
  go_wp2_with fail
  go_ret
  exact ⟨rfl, Below.refl _ _⟩
set_option maxHeartbeats 16000000 in
set_option maxRecDepth 100000 in
theorem nil_has (x : ByteArray) (w : World) : Calls Try.prog 35 #[.pointer none, .string x] w fun e w' => e = .returned (.tuple #[.slice none 0 0, .int .i64 7]) ∧ Below w.heap.size w w' := by
  have hund : ∀ b, some undef = some (Value.bool b) → False := fun b h => by simp [undef] at h
  go_enter Try.func35, Try.ntmps35
  go_wp2_with fail
  exact bodyPost_ret (v := .tuple #[.slice none 0 0, .int .i64 7]) (by simp [results, Try.results35, go_sem]) rfl ⟨rfl, Below.refl _ _⟩
/-! ### out -/
theorem nA : nameB bA = true := by decide
theorem nB' : nameB bB = true := by decide
theorem o1 : joinM ⟨3, 2, 0, 0, []⟩ bA 0 = (⟨3, 2, 1, 0, [⟨bA, 0⟩]⟩, 1, 0) := by
  simp [joinM, begB, nA, okS, jn, sweepM, keepM, isM, setM, putM]
theorem o2 : joinM ⟨3, 2, 1, 0, [⟨bA, 0⟩]⟩ bB 1 = (⟨3, 2, 2, 1, [⟨bA, 0⟩, ⟨bB, 1⟩]⟩, 2, 0) := by
  have h : ¬ ([98] : List UInt8) < [97] := by decide
  simp [joinM, begB, nB', okS, jn, sweepM, keepM, isM, setM, putM, kM, tA, tB, h]
theorem o3 : isM [⟨bA, 0⟩, ⟨bB, 1⟩] bB.toList = true := by simp [isM, kM, tA, tB]
theorem o4 : hasL ⟨3, 2, 2, 1, [⟨bA, 0⟩, ⟨bB, 1⟩]⟩ bB = [2] := by
  have hr : rkL [bA, bB] [98] = 1 := by
    simp only [rkL, List.map_cons, List.map_nil, tB, tA]
    decide
  unfold hasL
  rw [if_pos o3, tB]
  unfold ofL
  show numsG (startG 3 2 (rkL [bA, bB] [98])) (if rkL [bA, bB] [98] < 2 then cntG 3 2 (rkL [bA, bB] [98]) else 0) = _
  rw [hr]
  rfl
theorem o5 : beatM ⟨3, 2, 2, 1, [⟨bA, 0⟩, ⟨bB, 1⟩]⟩ bB 2 3 = (⟨3, 2, 3, 3, [⟨bB, 1⟩]⟩, 35) := by
  simp [beatM, begB, nB', okS, bt, sweepM, keepM, isM, kM, tA, tB]
theorem k0 : okM ⟨3, 2, 0, 0, []⟩ := ⟨by simp, by simp, by simp, by simp, by simp, fun x h => by cases h⟩
theorem k1 : okM ⟨3, 2, 1, 0, [⟨bA, 0⟩]⟩ := by
  have := okM_join k0 List.Pairwise.nil bA 0
  rw [o1] at this
  exact this
theorem r1 : RisM [⟨bA, 0⟩] := List.pairwise_singleton _ _
theorem k2 : okM ⟨3, 2, 2, 1, [⟨bA, 0⟩, ⟨bB, 1⟩]⟩ := by
  have := okM_join k1 r1 bB 1
  rw [o2] at this
  exact this
set_option maxHeartbeats 16000000 in
set_option maxRecDepth 100000 in
theorem out_calls (w : World) : Calls Try.prog 28 #[] w fun e w' => e = .returned (.bool true) ∧ Below w.heap.size w w' := by
  have hund : ∀ b, some undef = some (Value.bool b) → False := fun b h => by simp [undef] at h
  go_enter Try.func28, Try.ntmps28
  go_wp2_with fail
  refine (new_calls 3 2 w (by decide)).mono ?_
  rintro e w1 ⟨a, b, rfl, hT, ha, hbb, hb⟩
  have HA := Aside0.mk ha
  have HBB := Aside0.mk hbb
  have HT := Aside0.mk hT
  have HB := Aside0.mk hb
  clear hT ha hbb hb
  go_wp2_with fail
  refine (join_calls a b ⟨3, 2, 0, 0, []⟩ bA 0 (by decide) w1 HT.out k0 (by decide)).mono ?_
  rw [o1]
  rintro e w2 ⟨rfl, hT, hF⟩
  have n_HT := Aside0.mk (hT)
  have n_HB := Aside0.mk (Far.from HB.out hF HA.out HBB.out)
  clear HT HB hT hF
  have HT := n_HT
  have HB := n_HB
  clear n_HT n_HB
  go_wp2_with fail
  refine (join_calls a b ⟨3, 2, 1, 0, [⟨bA, 0⟩]⟩ bB 1 (by decide) w2 HT.out k1 (by decide)).mono ?_
  rw [o2]
  rintro e w3 ⟨rfl, hT, hF⟩
  have n_HT := Aside0.mk (hT)
  have n_HB := Aside0.mk (Far.from HB.out hF HA.out HBB.out)
  clear HT HB hT hF
  have HT := n_HT
  have HB := n_HB
  clear n_HT n_HB
  go_wp2_with fail
  refine (has_calls a b ⟨3, 2, 2, 1, [⟨bA, 0⟩, ⟨bB, 1⟩]⟩ bB (by decide) w3 HT.out k2).mono ?_
  rw [o4, if_pos (show isM (MG.mk 3 2 2 1 [⟨bA, 0⟩, ⟨bB, 1⟩]).L bB.toList = true from o3)]
  rintro e w4 ⟨v, rfl, hR, hb⟩
  have HBw := Aside0.mk HB.out.size
  have HV := Aside0.mk (show ∀ k, v.ownBlock = some k → w3.heap.size ≤ k from fun k hk => (Kd.R_bound hR).1 k hk |>.2.1)
  have HR4 := Aside0.mk hR
  have HLa := Aside0.mk HT.out.lt
  have HLb := Aside0.mk HT.out.own.lt
  have n_HT := Aside0.mk (HT.out.later hb)
  have n_HB := Aside0.mk (below_step HB.out hb)
  clear HT HB hb hR
  have HT := n_HT
  have HB := n_HB
  clear n_HT n_HB
  go_wp2_with fail
  refine (beat_calls a b ⟨3, 2, 2, 1, [⟨bA, 0⟩, ⟨bB, 1⟩]⟩ bB 2 3 (by decide) w4 HT.out k2 (by decide)).mono ?_
  rw [o5]
  rintro e w5 ⟨rfl, hT, hF⟩
  have n_R := Aside0.mk (Kd.R_mono (Kd.R_step (Kd.R_bound HR4.out) (fun k hk hlt => hF.block k hlt (by have := HLa.out; have := hk.2.1; omega) (by have := HLb.out; have := hk.2.1; omega))) (fun _ _ => trivial) : Kd.R (Kd.int .i64) 3 w5 w3.heap.size (fun _ => True) v [2])
  obtain ⟨A5, c5, rfl, hc5, hC5⟩ := Kd.R_reads n_R.out
  have HC5 := Aside0.mk hC5
  clear hC5 n_R HR4 HV HLa HLb HBw
  have n_HT := Aside0.mk (hT)
  have n_HB := Aside0.mk (Far.from HB.out hF HA.out HBB.out)
  clear HT HB hT hF
  have HT := n_HT
  have HB := n_HB
  clear n_HT n_HB
  go_wp2_with fail
  have hD1 : Kd.C (Kd.int .i64) (w5.alloc (.cells #[.int .i64 2] 3)) (some ⟨w5.heap.size, 0, none⟩) ([2] : List Int).length [2] := C_blk (Value.int .i64) (fun _ => rfl) (blk_new w5 _) (by decide)
  have hb3 : Below w5.heap.size w5 (w5.alloc (.cells #[.int .i64 2] 3)) := below_alloc (Below.refl _ _) _
  refine (ints_calls A5 (some ⟨w5.heap.size, 0, none⟩) c5 1 [2] (by decide) hc5 (by decide) _ (Kd.C_below HC5.out hb3) hD1).mono ?_
  rintro e w6 ⟨rfl, hB⟩
  have hb6 := below_step hb3 hB
  have n_HT := Aside0.mk (HT.out.later hb6)
  have n_HB := Aside0.mk (below_step HB.out hb6)
  clear HT HB hb3 hB hb6 hD1 HC5
  have HT := n_HT
  have HB := n_HB
  clear n_HT n_HB
  go_wp2_with fail
  refine (gen_calls a b _ w6 HT.out).mono ?_
  rintro e w7 ⟨rfl, hb⟩
  have n_HT := Aside0.mk (HT.out.later hb)
  have n_HB := Aside0.mk (below_step HB.out hb)
  clear HT HB hb
  have HT := n_HT
  have HB := n_HB
  clear n_HT n_HB
  go_wp2_with fail
  refine (members_calls a b _ w7 HT.out (by decide)).mono ?_
  rintro e w8 ⟨v8, rfl, hR8, hb⟩
  obtain ⟨A8, c8, rfl, hc8, hC8⟩ := Kd.R_reads hR8
  have HC8 := Aside0.mk (show Kd.C Kd.string w8 A8 [bB].length [bB] from hC8)
  have hc8' : [bB].length ≤ c8 := hc8
  clear hC8 hc8
  have n_HT := Aside0.mk (HT.out.later hb)
  have n_HB := Aside0.mk (below_step HB.out hb)
  clear HT HB hb hR8
  have HT := n_HT
  have HB := n_HB
  clear n_HT n_HB
  go_wp2_with fail
  have hD1 : Kd.C Kd.string (w8.alloc (.cells #[.string ⟨#[98]⟩] 9)) (some ⟨w8.heap.size, 0, none⟩) [bB].length [bB] := C_blk Value.string (fun _ => rfl) (blk_new w8 _) (by decide)
  have hb3 : Below w8.heap.size w8 (w8.alloc (.cells #[.string ⟨#[98]⟩] 9)) := below_alloc (Below.refl _ _) _
  refine (texts_calls A8 (some ⟨w8.heap.size, 0, none⟩) c8 1 [bB] (by decide) hc8' (by decide) _ (Kd.C_below HC8.out hb3) hD1).mono ?_
  rintro e w9 ⟨rfl, hB⟩
  have hb6 := below_step hb3 hB
  have n_HT := Aside0.mk (HT.out.later hb6)
  have n_HB := Aside0.mk (below_step HB.out hb6)
  clear HT HB hb3 hB hb6 hD1 HC8 hc8'
  have HT := n_HT
  have HB := n_HB
  clear n_HT n_HB
  go_wp2_with fail
  refine (parts_calls' a b _ w9 HT.out).mono ?_
  rintro e w10 ⟨rfl, hb⟩
  have n_HB := Aside0.mk (below_step HB.out hb)
  clear HB hb
  have HB := n_HB
  clear n_HB
  go_wp2_with fail
  go_ret
  exact ⟨rfl, HB.out⟩
end Go.Proofs.Ytohhlkabejangaa.Mb

namespace Go.Proofs.Ytohhlkabejangaa.Mb
set_option linter.unusedVariables false
set_option linter.unusedSimpArgs false
open Go.RowKit Go.Maps Go.Sort Go.Proofs.YtohhlkabejangaaW.PrintWords Go.Proofs.YtohhlkabejangaaW.PrintLast Go.Proofs.YtohhlkabejangaaW.PrintMore Go.Proofs.Ytohhlkabejangaa.PAs Go.Proofs.Ytohhlkabejangaa.As Go.Proofs.Ytohhlkabejangaa.Wire
theorem load_evm' {P : Program} {ops : Array Oper} {rest : List Oper} {o : Oper} {a : Act} {Q : Exit → Act → World → Prop} {W : World} {N : Tmp} (hN : o.dst = some N) (hgd : o.guard = none) {ty : TypeId} {p : Tmp} (ho : o.op = .load ty (.tmp p)) {b : Addr} {cs : Array Value} (hx : a.eval (.tmp p) = .pointer (some b)) {d : TypeDesc} (hc : ∀ (j : Nat) (v : Value), cs[j]? = some v → W.cell? (b.add j) = some v)
    (hu : P.underlying ty = some d) (hd : (match d with | .struct _ | .array _ _ => true | _ => false) = true) (hi : (P.info? ty).map (·.size) = some cs.size)
    (h : wpList P ops Q rest (a.put o.dst (.agg cs)) W) : wpList P ops Q (o :: rest) a W := by
  have hl : (loadCells b cs.toList.length).run P W = .ok cs.toList.toArray W :=
    run_loadCells_list (P := P) W b cs.toList (fun j v hv => hc j v (by simpa using hv))
  have hv : (loadVar ty b).run P W = .ok (.agg cs) W := by
    cases hq : P.info? ty with
    | none => simp [hq] at hi
    | some i =>
      have hs : i.size = cs.size := by simpa [hq] using hi
      have hagg : (isAgg ty).run P W = .ok true W := by
        unfold isAgg
        rw [Sem.run_bind, run_underlying hu W]
        cases d <;> simp_all
      simp only [Array.length_toList, Array.toArray_toList] at hl
      simp [loadVar, Sem.run_bind, hagg, sizeOf, typeInfo, hq, hs, hl]
  have hw : Region.wanted o (yielded ops a.tmps) = true := by simp [Region.wanted, hgd]
  unfold wpList
  rw [if_pos hw]
  left
  unfold Oper.wp
  have hr : (execOp a.eval o).run P W = .ok (.value (.agg cs)) W := by
    unfold execOp
    simp only [ho, hx, Instr.loadAt, Instr.sureAddr, Sem.run_bind, Sem.run_pure, Result.andThen_ok, hv]
  rw [hr]
  exact h
abbrev Ac := S53
/-- calls that come in: n of them, with room for k -/
def Acs (k : Nat) (W : World) (A : Option Addr) (n : Nat) (l : List Ac) : Prop := l.length = n ∧ n ≤ k ∧ Kd.C k53 W A n l
def Ac.cs (r : Ac) : Array Value := #[.int .i64 r.f0, .string r.f1, .int .i64 r.f2, .int .i64 r.f3]
theorem at_act {w : World} {A : Option Addr} {n : Nat} {xs : List Ac} (h : Kd.C k53 w A n xs) (i : Nat) (hi : i < n) (hx : i < xs.length) :
    ∃ ad, A = some ad ∧ (∀ (j : Nat) (u : Value), (Ac.cs xs[i])[j]? = some u → w.cell? ((ad.add (i * 4)).add j) = some u) := by
  obtain ⟨ad, c, e, hs, hK, hc⟩ := Kd.C_get h z53 (i : Int) (by omega) (by omega)
  have hq := k53_open hK
  rw [Int.toNat_natCast] at hc hq
  have hgd : xs.getD i z53 = xs[i] := by rw [List.getD_eq_getElem?_getD, List.getElem?_eq_getElem hx]; rfl
  rw [hgd] at hq
  subst hq
  refine ⟨ad, e, fun j u hu => ?_⟩
  rw [Go.Deep.add_add]
  exact hc j u (by simpa [Ac.cs] using hu)
def largeA (l : List Ac) : Bool := decide (50 < l.length) || l.any (fun r => decide (100 < r.f1.size))
theorem rd_act (l : List Ac) (i : Nat) (hi : i < l.length) : rd_T53 l (i : Int) = l[i] := by
  unfold rd_T53
  rw [Int.toNat_natCast, List.getD_eq_getElem?_getD, List.getElem?_eq_getElem hi]
  rfl
theorem large_loopA (l : List Ac) (hl : l.length ≤ 50) : ∀ (d i k : Nat), i + d = l.length → d < k → weighlocklaw29_large.l0 k l (l.length : Int) (i : Int) = some ((l.drop i).any (fun r => decide (100 < r.f1.size)))
  | 0, i, k, hi, hk => by
    obtain ⟨k, rfl⟩ : ∃ k', k = k' + 1 := ⟨k - 1, by omega⟩
    rw [weighlocklaw29_large.l0, if_neg (by omega), List.drop_of_length_le (by omega)]
    rfl
  | d + 1, i, k, hi, hk => by
    obtain ⟨k, rfl⟩ : ∃ k', k = k' + 1 := ⟨k - 1, by omega⟩
    have hin : i < l.length := by omega
    rw [weighlocklaw29_large.l0, if_pos (by omega), if_pos (by omega), if_pos (by omega), rd_act l i hin, List.drop_eq_getElem_cons hin, List.any_cons]
    by_cases h : ((l[i].f1.size : Int) > 100)
    · rw [if_pos h, decide_eq_true (show 100 < l[i].f1.size by omega), Bool.true_or]
    · rw [if_neg h, decide_eq_false (show ¬ 100 < l[i].f1.size by omega), Bool.false_or, w64 _ (by omega) (by omega)]
      exact large_loopA l hl d (i + 1) k (by omega) (by omega)
theorem largeA_f (l : List Ac) : weighlocklaw29_large.f 100 l = some (largeA l) := by
  unfold weighlocklaw29_large.f largeA
  by_cases h : (l.length : Int) > 50
  · rw [if_pos h, decide_eq_true (show 50 < l.length by omega), Bool.true_or]
  · rw [if_neg h, decide_eq_false (show ¬ 50 < l.length by omega), Bool.false_or]
    exact large_loopA l (by omega) l.length 0 100 (by omega) (by omega)
theorem largeA_no {l : List Ac} (h : largeA l = false) : l.length ≤ 50 ∧ ∀ r ∈ l, r.f1.size ≤ 1000 := by
  unfold largeA at h
  rw [Bool.or_eq_false_iff, decide_eq_false_iff_not, List.any_eq_false] at h
  exact ⟨by omega, fun s hs => by have := h.2 s hs; simp at this; omega⟩
theorem largeA_calls (A : Option Addr) (c : Nat) (l : List Ac) (w : World) (hA : Kd.C k53 w A l.length l) (hc : l.length ≤ c) :
    Calls Try.prog 27 #[.slice A l.length c] w fun e w' => e = .returned (.bool (largeA l)) ∧ Below w.heap.size w w' := by
  refine (weighlocklaw29_large.calls 100 A c l _ w hA hc (largeA_f l)).mono ?_
  rintro e w' h
  first
  | exact ⟨h.1, h.2.below⟩
  | exact ⟨h.1, h.2⟩
/-- what a call comes to -/
def doneM (m : MG) (r : Ac) : MG × Int × Int :=
  if r.f0 = 0 then joinM m r.f1 r.f3 else if r.f0 = 1 then ((leaveM m r.f1 r.f3).1, 0, (leaveM m r.f1 r.f3).2) else if r.f0 = 2 then ((beatM m r.f1 r.f2 r.f3).1, 0, (beatM m r.f1 r.f2 r.f3).2) else ((swpM m r.f3).1, (swpM m r.f3).2, 0)
theorem okM_done {m : MG} (h : okM m) (hr : RisM m.L) (r : Ac) : okM (doneM m r).1 := by
  unfold doneM
  split
  · exact okM_join h hr _ _
  · split
    · exact okM_leave h _ _
    · split
      · exact okM_beat h hr _ _ _
      · exact okM_swp h _
theorem sweep_g (m : MG) (slot : Int) : (sweepM m slot).g ≤ m.g + 1 ∧ m.g ≤ (sweepM m slot).g := by
  unfold sweepM
  simp only []
  split <;> omega
theorem jn_g (m : MG) (x : ByteArray) (slot : Int) : (jn m x slot).1.g ≤ m.g + 1 := by
  unfold jn
  split
  · show m.g ≤ m.g + 1
    omega
  · split
    · show m.g ≤ m.g + 1
      omega
    · exact Int.le_refl _
theorem lv_g (m : MG) (x : ByteArray) : (lv m x).1.g ≤ m.g + 1 := by
  unfold lv
  split
  · exact Int.le_refl _
  · show m.g ≤ m.g + 1
    omega
theorem bt_g (m : MG) (x : ByteArray) (gen slot : Int) : (bt m x gen slot).1.g ≤ m.g + 1 := by
  unfold bt
  split
  · split
    · show m.g ≤ m.g + 1
      omega
    · show m.g ≤ m.g + 1
      omega
  · show m.g ≤ m.g + 1
    omega
theorem done_g (m : MG) (r : Ac) : (doneM m r).1.g ≤ m.g + 2 := by
  have h1 := sweep_g m r.f3
  have h2 := jn_g (sweepM m r.f3) r.f1 r.f3
  have h3 := lv_g (sweepM m r.f3) r.f1
  have h4 := bt_g (sweepM m r.f3) r.f1 r.f2 r.f3
  unfold doneM
  split
  · unfold joinM
    split
    · omega
    · show m.g ≤ m.g + 2
      omega
  · split
    · show (leaveM m r.f1 r.f3).1.g ≤ m.g + 2
      unfold leaveM
      split
      · omega
      · show m.g ≤ m.g + 2
        omega
    · split
      · show (beatM m r.f1 r.f2 r.f3).1.g ≤ m.g + 2
        unfold beatM
        split
        · omega
        · show m.g ≤ m.g + 2
          omega
      · show (swpM m r.f3).1.g ≤ m.g + 2
        unfold swpM
        split
        · show (sweepM m r.f3).g ≤ m.g + 2
          omega
        · show m.g ≤ m.g + 2
          omega
theorem swpM_calls (a b : Nat) (m : MG) (slot : Int) (w : World) (hT : Tab w a b m) (hok : okM m) (hg : m.g ≤ 1000000) :
    Calls Try.prog 38 #[.pointer (some ⟨a, 0, none⟩), .int .i64 slot] w fun e w' => e = .returned (.int .i64 (swpM m slot).2) ∧ Tab w' a b (swpM m slot).1 ∧ Far w w' a b := by
  have h := swp_calls a b m slot w hT hok hg
  unfold swpM
  cases hs : okS m slot with
  | true => rw [hs] at h; exact h
  | false => rw [hs] at h; exact h
set_option maxHeartbeats 16000000 in
set_option maxRecDepth 100000 in
theorem done_calls (a b : Nat) (m : MG) (x0 : Int) (x1 : ByteArray) (x2 x3 : Int) (hx : x1.size ≤ 1000) (w : World) (hT : Tab w a b m) (hok : okM m) (hg : m.g ≤ 1000000) :
    Calls Try.prog 30 #[.pointer (some ⟨a, 0, none⟩), .agg #[.int .i64 x0, .string x1, .int .i64 x2, .int .i64 x3]] w fun e w' => e = .returned (.tuple #[.int .i64 (doneM m ⟨x0, x1, x2, x3⟩).2.1, .int .i64 (doneM m ⟨x0, x1, x2, x3⟩).2.2]) ∧ Tab w' a b (doneM m ⟨x0, x1, x2, x3⟩).1 ∧ Far w w' a b := by
  have hund : ∀ b, some undef = some (Value.bool b) → False := fun b h => by simp [undef] at h
  have HT := Aside0.mk hT
  have HOK := Aside0.mk hok
  clear hT hok
  unfold doneM
  by_cases h0 : x0 = 0
  · rw [if_pos h0]
    have d0 : (x0 == 0) = true := by rw [h0]; rfl
    clear h0
    go_enter Try.func30, Try.ntmps30
    go_wp2_with (first
      | ((with_reducible refine gate_dst (N := 3) rfl ?_); refine box_event rfl (N := 3) rfl (cs := #[.int .i64 x0, .string x1, .int .i64 x2, .int .i64 x3]) (t := 53) ?hr ?_; (case hr => first | (go_simp; done) | (go_simp; rfl)); intro g hgx w1 hbx hbl; have HB := Aside0.mk hbl; have y0 : w1.cell? ⟨g, 0, none⟩ = some (.int .i64 x0) := (blk_cell hbx 0).trans rfl; have y1 : w1.cell? ⟨g, 1, none⟩ = some (.string x1) := (blk_cell hbx 1).trans rfl; have y2 : w1.cell? ⟨g, 2, none⟩ = some (.int .i64 x2) := (blk_cell hbx 2).trans rfl; have y3 : w1.cell? ⟨g, 3, none⟩ = some (.int .i64 x3) := (blk_cell hbx 3).trans rfl; clear hbl hgx hbx))
    refine (join_calls a b m x1 x3 hx w1 (HT.out.later HB.out) HOK.out hg).mono ?_
    rintro e w2 ⟨rfl, hT2, hF2⟩
    have HT2 := Aside0.mk hT2
    have HF2 := Aside0.mk ((Far.below HB.out).trans hF2)
    clear hT2 hF2 HB y0 y1 y2 y3
    go_wp2_with fail
    exact bodyPost_ret (v := .tuple #[.int .i64 (joinM m x1 x3).2.1, .int .i64 (joinM m x1 x3).2.2]) (by simp [results, Try.results30, go_sem]) rfl ⟨rfl, HT2.out, HF2.out⟩
  · rw [if_neg h0]
    have d0 : (x0 == 0) = false := beq_eq_false_iff_ne.2 h0
    by_cases h1 : x0 = 1
    · rw [if_pos h1]
      have d1 : (x0 == 1) = true := by rw [h1]; rfl
      clear h0 h1
      go_enter Try.func30, Try.ntmps30
      go_wp2_with (first
        | ((with_reducible refine gate_dst (N := 3) rfl ?_); refine box_event rfl (N := 3) rfl (cs := #[.int .i64 x0, .string x1, .int .i64 x2, .int .i64 x3]) (t := 53) ?hr ?_; (case hr => first | (go_simp; done) | (go_simp; rfl)); intro g hgx w1 hbx hbl; have HB := Aside0.mk hbl; have y0 : w1.cell? ⟨g, 0, none⟩ = some (.int .i64 x0) := (blk_cell hbx 0).trans rfl; have y1 : w1.cell? ⟨g, 1, none⟩ = some (.string x1) := (blk_cell hbx 1).trans rfl; have y2 : w1.cell? ⟨g, 2, none⟩ = some (.int .i64 x2) := (blk_cell hbx 2).trans rfl; have y3 : w1.cell? ⟨g, 3, none⟩ = some (.int .i64 x3) := (blk_cell hbx 3).trans rfl; clear hbl hgx hbx))
      refine (leave_calls a b m x1 x3 hx w1 (HT.out.later HB.out) HOK.out hg).mono ?_
      rintro e w2 ⟨rfl, hT2, hF2⟩
      have HT2 := Aside0.mk hT2
      have HF2 := Aside0.mk ((Far.below HB.out).trans hF2)
      clear hT2 hF2 HB y0 y1 y2 y3
      go_wp2_with fail
      exact bodyPost_ret (v := .tuple #[.int .i64 0, .int .i64 (leaveM m x1 x3).2]) (by simp [results, Try.results30, go_sem]) rfl ⟨rfl, HT2.out, HF2.out⟩
    · rw [if_neg h1]
      have d1 : (x0 == 1) = false := beq_eq_false_iff_ne.2 h1
      by_cases h2 : x0 = 2
      · rw [if_pos h2]
        have d2 : (x0 == 2) = true := by rw [h2]; rfl
        clear h0 h1 h2
        go_enter Try.func30, Try.ntmps30
        go_wp2_with (first
          | ((with_reducible refine gate_dst (N := 3) rfl ?_); refine box_event rfl (N := 3) rfl (cs := #[.int .i64 x0, .string x1, .int .i64 x2, .int .i64 x3]) (t := 53) ?hr ?_; (case hr => first | (go_simp; done) | (go_simp; rfl)); intro g hgx w1 hbx hbl; have HB := Aside0.mk hbl; have y0 : w1.cell? ⟨g, 0, none⟩ = some (.int .i64 x0) := (blk_cell hbx 0).trans rfl; have y1 : w1.cell? ⟨g, 1, none⟩ = some (.string x1) := (blk_cell hbx 1).trans rfl; have y2 : w1.cell? ⟨g, 2, none⟩ = some (.int .i64 x2) := (blk_cell hbx 2).trans rfl; have y3 : w1.cell? ⟨g, 3, none⟩ = some (.int .i64 x3) := (blk_cell hbx 3).trans rfl; clear hbl hgx hbx))
        refine (beat_calls a b m x1 x2 x3 hx w1 (HT.out.later HB.out) HOK.out hg).mono ?_
        rintro e w2 ⟨rfl, hT2, hF2⟩
        have HT2 := Aside0.mk hT2
        have HF2 := Aside0.mk ((Far.below HB.out).trans hF2)
        clear hT2 hF2 HB y0 y1 y2 y3
        go_wp2_with fail
        exact bodyPost_ret (v := .tuple #[.int .i64 0, .int .i64 (beatM m x1 x2 x3).2]) (by simp [results, Try.results30, go_sem]) rfl ⟨rfl, HT2.out, HF2.out⟩
      · rw [if_neg h2]
        have d2 : (x0 == 2) = false := beq_eq_false_iff_ne.2 h2
        clear h0 h1 h2
        go_enter Try.func30, Try.ntmps30
        go_wp2_with (first
          | ((with_reducible refine gate_dst (N := 3) rfl ?_); refine box_event rfl (N := 3) rfl (cs := #[.int .i64 x0, .string x1, .int .i64 x2, .int .i64 x3]) (t := 53) ?hr ?_; (case hr => first | (go_simp; done) | (go_simp; rfl)); intro g hgx w1 hbx hbl; have HB := Aside0.mk hbl; have y0 : w1.cell? ⟨g, 0, none⟩ = some (.int .i64 x0) := (blk_cell hbx 0).trans rfl; have y1 : w1.cell? ⟨g, 1, none⟩ = some (.string x1) := (blk_cell hbx 1).trans rfl; have y2 : w1.cell? ⟨g, 2, none⟩ = some (.int .i64 x2) := (blk_cell hbx 2).trans rfl; have y3 : w1.cell? ⟨g, 3, none⟩ = some (.int .i64 x3) := (blk_cell hbx 3).trans rfl; clear hbl hgx hbx))
        refine (swpM_calls a b m x3 w1 (HT.out.later HB.out) HOK.out hg).mono ?_
        rintro e w2 ⟨rfl, hT2, hF2⟩
        have HT2 := Aside0.mk hT2
        have HF2 := Aside0.mk ((Far.below HB.out).trans hF2)
        clear hT2 hF2 HB y0 y1 y2 y3
        go_wp2_with fail
        exact bodyPost_ret (v := .tuple #[.int .i64 (swpM m x3).2, .int .i64 0]) (by simp [results, Try.results30, go_sem]) rfl ⟨rfl, HT2.out, HF2.out⟩
end Go.Proofs.Ytohhlkabejangaa.Mb

namespace Go.Proofs.Ytohhlkabejangaa.Mb
set_option linter.unusedVariables false
set_option linter.unusedSimpArgs false
open Go.RowKit Go.Maps Go.Sort Go.Proofs.YtohhlkabejangaaW.PrintWords Go.Proofs.YtohhlkabejangaaW.PrintLast Go.Proofs.YtohhlkabejangaaW.PrintMore Go.Proofs.Ytohhlkabejangaa.PAs Go.Proofs.Ytohhlkabejangaa.As Go.Proofs.Ytohhlkabejangaa.Wire
theorem done_p (m : MG) (r : Ac) : (doneM m r).1.p = m.p := by
  unfold doneM
  split
  · unfold joinM
    split
    · unfold jn
      split
      · rfl
      · split <;> rfl
    · rfl
  · split
    · show (leaveM m r.f1 r.f3).1.p = m.p
      unfold leaveM
      split
      · unfold lv
        split <;> rfl
      · rfl
    · split
      · show (beatM m r.f1 r.f2 r.f3).1.p = m.p
        unfold beatM
        split
        · unfold bt
          split
          · split <;> rfl
          · rfl
        · rfl
      · show (swpM m r.f3).1.p = m.p
        unfold swpM
        split <;> rfl
theorem metc (l : List ByteArray) (hw : wrongL l = 0) (n i : Nat) : (metL l n l.length).count (i : Int) = if i < n ∧ 0 < l.length then 1 else 0 := by
  by_cases h : i < n ∧ 0 < l.length
  · rw [if_pos h]
    exact metL_all l hw h.2 n i h.1
  · rw [if_neg h, List.count_eq_zero]
    intro hm
    unfold metL at hm
    obtain ⟨x, hx, hi⟩ := List.mem_flatMap.1 hm
    have h1 := ofL_range l n x.toList _ hi
    have h2 : 0 < l.length := by
      rw [List.take_length] at hx
      exact List.length_pos_of_mem hx
    exact h ⟨by omega, h2⟩
theorem Tab.far {W W' : World} {a b q : Nat} {m : MG} (h : Tab W a b m) (k : W.grownBy W' (some q)) (ha : a ≠ q) (hb : b ≠ q) : Tab W' a b m :=
  ⟨(k.block a h.lt (fun e => ha (Option.some.inj e))).trans h.cell, h.own.kept k (fun e => hb (Option.some.inj e)), h.ris⟩
theorem hasL_in {m : MG} {x : ByteArray} (hx : x ∈ namesM m.L) : isM m.L x.toList = true ∧ hasL m x = ofL (namesM m.L) m.p.toNat x.toList := by
  have h : isM m.L x.toList = true := by rw [← isIn_names]; exact in_of_mem _ _ hx
  exact ⟨h, if_pos h⟩
theorem R_past {W W' : World} {B q : Nat} {α : Type} {d : Kd α} {e : Nat} {v : Value} {xs : List α} (h : d.R e W B (fun _ => True) v xs) (k : W.grownBy W' (some q)) (hq : q < B) : d.R e W' B (fun _ => True) v xs :=
  Kd.R_mono (Kd.R_step (Kd.R_bound h) (fun i hi hlt => k.block i hlt (fun e => by have := hi.2.1; have := Option.some.inj e; omega))) (fun _ _ => trivial)
end Go.Proofs.Ytohhlkabejangaa.Mb

