import Derived.Test.YtgojaomldkgojaaPDdx1
import Derived.Maps.Own
import Derived.Maps.OwnOps
import Derived.Maps.OwnSet
import Derived.Maps.Views
import Derived.Maps.Range
import Derived.Deep.Slices
namespace Go.Proofs.Ytgojaomldkgojaa.Dd
set_option linter.unusedVariables false
set_option linter.unusedSimpArgs false
open Go.RowKit Go.Maps Go.Proofs.YtgojaomldkgojaaW.PrintWords Go.Proofs.YtgojaomldkgojaaW.PrintLast Go.Proofs.YtgojaomldkgojaaW.PrintMore Go.Proofs.Ytgojaomldkgojaa.PDd
/-! A table of producers as a list: by rising producers (f0), with seq (f1), n (f2), offset (f3). -/
abbrev La := S43
def La.cs (r : La) : Array Value := #[.int .i64 r.f0, .int .i64 r.f1, .int .i64 r.f2, .int .i64 r.f3]
def el (a b c : Int) : DataW Unit := .agg [.lit (.int .i64 a), .lit (.int .i64 b), .lit (.int .i64 c)]
/-- how an element of the map reads -/
def R3 (v : Value) : Option (DataW Unit × List MemPlace) :=
  match v with
  | .agg cs => match cs.toList with
    | [.int .i64 a, .int .i64 b, .int .i64 c] => some (el a b c, [])
    | _ => none
  | _ => none
theorem R3_mk (a b c : Int) : R3 (.agg #[.int .i64 a, .int .i64 b, .int .i64 c]) = some (el a b c, []) := rfl
theorem R3_inv {v : Value} {a b c : Int} {ps : List MemPlace} (h : R3 v = some (el a b c, ps)) : v = .agg #[.int .i64 a, .int .i64 b, .int .i64 c] := by
  unfold R3 at h
  split at h
  · rename_i cs
    split at h
    · rename_i a' b' c' he
      have h1 := congrArg Prod.fst (Option.some.inj h)
      simp only [el, DataW.agg.injEq, List.cons.injEq, DataW.lit.injEq, Lit.int.injEq, true_and, and_true] at h1
      obtain ⟨rfl, rfl, rfl⟩ := h1
      congr 1
      exact Array.ext' he
    · cases h
  · cases h
def ent (x : La) : Lit × DataW Unit := (.int .i64 x.f0, el x.f1 x.f2 x.f3)
def datL (l : List La) : DataW Unit := .map (l.map ent)
def Ris (l : List La) : Prop := l.Pairwise (fun a b => a.f0 < b.f0)
/-- one put in its place -/
def noteL : List La → La → List La
  | [], x => [x]
  | y :: l, x => if x.f0 < y.f0 then x :: y :: l else if y.f0 = x.f0 then x :: l else y :: noteL l x
def findL (l : List La) (p : Int) : Option La := l.find? (fun y => decide (y.f0 = p))
theorem same_int (a b : Int) : (Lit.int .i64 a).sameKey (.int .i64 b) = decide (a = b) := by
  simp [Lit.sameKey]
theorem filter_all (l : List La) (p : Int) (h : ∀ y ∈ l, p < y.f0) : (l.map ent).filter (fun q => !q.1.sameKey (.int .i64 p)) = l.map ent := by
  rw [List.filter_eq_self]
  intro q hq
  obtain ⟨y, hy, rfl⟩ := List.mem_map.1 hq
  have := h y hy
  unfold ent
  rw [same_int, decide_eq_false (by omega)]
  rfl
theorem insert_head (l : List La) (x : La) (h : ∀ y ∈ l, x.f0 < y.f0) : DataW.insert (ent x) (l.map ent) = ent x :: l.map ent := by
  cases l with
  | nil => rfl
  | cons y l =>
    have := h y List.mem_cons_self
    rw [List.map_cons, DataW.insert]
    rw [if_pos (show (ent x).1.before (ent y).1 = true from decide_eq_true this)]
theorem put_eq (l : List La) (x : La) (h : Ris l) : (datL l).put (.int .i64 x.f0) (el x.f1 x.f2 x.f3) = datL (noteL l x) := by
  show DataW.map (DataW.insert (ent x) ((l.map ent).filter (fun q => !q.1.sameKey (.int .i64 x.f0)))) = DataW.map ((noteL l x).map ent)
  congr 1
  induction l with
  | nil => rfl
  | cons y l ih =>
    obtain ⟨h1, h2⟩ := List.pairwise_cons.1 h
    unfold noteL
    by_cases c1 : x.f0 < y.f0
    · rw [if_pos c1, filter_all (y :: l) x.f0 (fun z hz => by
        rcases List.mem_cons.1 hz with rfl | hz
        · exact c1
        · have := h1 z hz; omega), insert_head (y :: l) x (fun z hz => by
        rcases List.mem_cons.1 hz with rfl | hz
        · exact c1
        · have := h1 z hz; omega)]
      rfl
    · rw [if_neg c1]
      by_cases c2 : y.f0 = x.f0
      · have e : (ent y).1.sameKey (.int .i64 x.f0) = true := by
          unfold ent
          rw [same_int, decide_eq_true c2]
        rw [if_pos c2, List.map_cons, List.filter_cons_of_neg (by rw [e]; decide), filter_all l x.f0 (fun z hz => by have := h1 z hz; omega), insert_head l x (fun z hz => by have := h1 z hz; omega)]
        rfl
      · have e : (ent y).1.sameKey (.int .i64 x.f0) = false := by
          unfold ent
          rw [same_int, decide_eq_false c2]
        have e2 : (ent x).1.before (ent y).1 = false := decide_eq_false c1
        rw [if_neg c2, List.map_cons, List.filter_cons_of_pos (by rw [e]; rfl), DataW.insert, if_neg (by rw [e2]; decide), ih h2]
        rfl
theorem note_mem (l : List La) (x z : La) (h : z ∈ noteL l x) : z = x ∨ z ∈ l := by
  induction l with
  | nil => exact .inl (List.mem_singleton.1 h)
  | cons y l ih =>
    unfold noteL at h
    split at h
    · rcases List.mem_cons.1 h with h | h
      · exact .inl h
      · exact .inr h
    · split at h
      · rcases List.mem_cons.1 h with h | h
        · exact .inl h
        · exact .inr (List.mem_cons_of_mem _ h)
      · rcases List.mem_cons.1 h with h | h
        · exact .inr (by rw [h]; exact List.mem_cons_self)
        · rcases ih h with h | h
          · exact .inl h
          · exact .inr (List.mem_cons_of_mem _ h)
theorem note_ris (l : List La) (x : La) (h : Ris l) : Ris (noteL l x) := by
  induction l with
  | nil => exact List.pairwise_singleton _ _
  | cons y l ih =>
    obtain ⟨h1, h2⟩ := List.pairwise_cons.1 h
    unfold noteL
    split
    · rename_i c
      refine List.Pairwise.cons (fun b hb => ?_) h
      rcases List.mem_cons.1 hb with rfl | hb
      · exact c
      · have := h1 b hb
        omega
    · rename_i c
      split
      · rename_i c2
        exact List.Pairwise.cons (fun b hb => by have := h1 b hb; omega) h2
      · rename_i c2
        refine List.Pairwise.cons (fun b hb => ?_) (ih h2)
        rcases note_mem l x b hb with rfl | hb
        · omega
        · exact h1 b hb
theorem find_none (l : List La) (p : Int) : findL l p = none ↔ ∀ y ∈ l, y.f0 ≠ p := by
  unfold findL
  rw [List.find?_eq_none]
  simp
theorem find_some {l : List La} {p : Int} {x : La} (h : findL l p = some x) : x ∈ l ∧ x.f0 = p := by
  unfold findL at h
  exact ⟨List.mem_of_find?_eq_some h, by simpa using List.find?_some h⟩
theorem note_len (l : List La) (x : La) (h : Ris l) : (noteL l x).length = if (findL l x.f0).isSome = true then l.length else l.length + 1 := by
  induction l with
  | nil => rfl
  | cons y l ih =>
    obtain ⟨h1, h2⟩ := List.pairwise_cons.1 h
    unfold noteL
    by_cases c1 : x.f0 < y.f0
    · rw [if_pos c1]
      have : findL (y :: l) x.f0 = none := (find_none _ _).2 (fun z hz => by
        rcases List.mem_cons.1 hz with rfl | hz
        · omega
        · have := h1 z hz; omega)
      rw [this]
      rfl
    · rw [if_neg c1]
      by_cases c2 : y.f0 = x.f0
      · rw [if_pos c2]
        have : findL (y :: l) x.f0 = some y := by unfold findL; rw [List.find?_cons_of_pos (by simpa using c2)]
        rw [this]
        rfl
      · rw [if_neg c2]
        have : findL (y :: l) x.f0 = findL l x.f0 := by unfold findL; rw [List.find?_cons_of_neg (by simpa using c2)]
        rw [this, List.length_cons, ih h2, List.length_cons]
        split <;> rfl
theorem find_note_same (l : List La) (x : La) (h : Ris l) : findL (noteL l x) x.f0 = some x := by
  induction l with
  | nil => simp [noteL, findL]
  | cons y l ih =>
    obtain ⟨h1, h2⟩ := List.pairwise_cons.1 h
    unfold noteL
    split
    · unfold findL; rw [List.find?_cons_of_pos (by simp)]
    · split
      · unfold findL; rw [List.find?_cons_of_pos (by simp)]
      · rename_i c2
        unfold findL
        rw [List.find?_cons_of_neg (by simpa using c2)]
        exact ih h2
theorem has_eq' (l : List La) (p : Int) : Maps.has (datL l) (.int .i64 p) = (findL l p).isSome := by
  show (l.map ent).any (fun q => q.1.sameKey (.int .i64 p)) = _
  induction l with
  | nil => rfl
  | cons y l ih =>
    rw [List.map_cons, List.any_cons, ih]
    unfold ent
    rw [same_int]
    by_cases c : y.f0 = p
    · have : findL (y :: l) p = some y := by unfold findL; rw [List.find?_cons_of_pos (by simpa using c)]
      rw [this, decide_eq_true c]
      rfl
    · have : findL (y :: l) p = findL l p := by unfold findL; rw [List.find?_cons_of_neg (by simpa using c)]
      rw [this, decide_eq_false c]
      rfl
/-- what stands at a producer: its last batch, or nothing -/
def lookL (l : List La) (p : Int) : Int × Int × Int := match findL l p with | some x => (x.f1, x.f2, x.f3) | none => (0, 0, 0)
theorem at_eq (l : List La) (p : Int) : (datL l).atKey (.int .i64 p) (el 0 0 0) = el (lookL l p).1 (lookL l p).2.1 (lookL l p).2.2 := by
  unfold datL DataW.atKey
  dsimp only
  induction l with
  | nil => rfl
  | cons y l ih =>
    have e : (ent y).1.sameKey (.int .i64 p) = decide (y.f0 = p) := same_int _ _
    unfold lookL at ih ⊢
    by_cases c : y.f0 = p
    · have : findL (y :: l) p = some y := by unfold findL; rw [List.find?_cons_of_pos (by simpa using c)]
      rw [this, List.map_cons, List.find?_cons_of_pos (by rw [e]; exact decide_eq_true c)]
      rfl
    · have : findL (y :: l) p = findL l p := by unfold findL; rw [List.find?_cons_of_neg (by simpa using c)]
      rw [this, List.map_cons, List.find?_cons_of_neg (by rw [e, decide_eq_false c]; decide)]
      exact ih
/-- can there be such a batch? -/
def mayB (p s n : Int) : Bool := decide (1 ≤ p ∧ p ≤ 1099511627776 ∧ 0 ≤ s ∧ s ≤ 1099511627776 ∧ 1 ≤ n ∧ n ≤ 8)
def okL (x : La) : Prop := mayB x.f0 x.f1 x.f2 = true ∧ 0 ≤ x.f3 ∧ x.f3 ≤ 1048576
/-- g points at block b, which is the table of l -/
structure Tab (w : World) (g b : Nat) (l : List La) : Prop where
  cell : w.heap[g]? = some (.cells #[.map (some b)] 92 (0, 0))
  own : w.ownsMap Try.prog 3 R3 b l.length (datL l)
  ris : Ris l
  ok : ∀ x ∈ l, okL x
theorem int_law : Keyed Try.prog 3 := int_keyed Try.underlying3
theorem own_exact {w : World} {b n : Nat} {l : List La} (h : w.ownsMap Try.prog 3 R3 b n (datL l)) : w.ownsMap Try.prog 3 R3 b l.length (datL l) := by
  obtain ⟨es, clock, hb, F, hs, hD⟩ := h
  refine ⟨es, clock, hb, F, ?_, hD⟩
  have h9 : (datL l) = .map (l.map ent) := rfl
  rw [h9] at hD
  injection hD with hD
  have := congrArg List.length hD
  rw [length_read, List.length_map] at this
  omega
theorem Tab.ne {w : World} {g b : Nat} {l : List La} (h : Tab w g b l) : g ≠ b := by
  intro e
  obtain ⟨es, clock, hb, _⟩ := h.own
  have := h.cell
  rw [e, hb] at this
  cases this
theorem Tab.lt {w : World} {g b : Nat} {l : List La} (h : Tab w g b l) : g < w.heap.size := (Array.getElem?_eq_some_iff.1 h.cell).1
theorem Tab.later {w w' : World} {g b : Nat} {l : List La} (h : Tab w g b l) (hb : Below w.heap.size w w') : Tab w' g b l :=
  ⟨(hb.block g h.lt).trans h.cell, h.own.kept (row := none) ⟨hb.os, hb.tape, hb.output, hb.size, fun i hi _ => hb.block i hi⟩ (by simp), h.ris, h.ok⟩
theorem may_spec (p s n : Int) : dedup_may.f p s n = some (mayB p s n) := by
  unfold dedup_may.f mayB
  repeat' (split)
  all_goals (simp only [Option.some.injEq, decide_eq_decide]; first | (constructor <;> omega) | (symm; rw [decide_eq_false_iff_not]; omega) | omega)
theorem rmay_spec (p s n : Int) : weighlockref18_May.f p s n = some (mayB p s n) := by
  unfold weighlockref18_May.f mayB
  repeat' (split)
  all_goals (simp only [Option.some.injEq, decide_eq_decide]; first | (constructor <;> omega) | (symm; rw [decide_eq_false_iff_not]; omega) | omega)
end Go.Proofs.Ytgojaomldkgojaa.Dd
