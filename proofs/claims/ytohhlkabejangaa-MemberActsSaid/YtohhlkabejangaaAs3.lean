import Derived.Test.YtohhlkabejangaaAs2
import Derived.Maps.OwnRows
import Derived.Maps.GroupsBeside
import Derived.Maps.Views
import Derived.Maps.Range
namespace Go.Proofs.Ytohhlkabejangaa.As
open Go.RowKit Go.Maps Go.Sort Go.ChangeShapes Go.Proofs.YtohhlkabejangaaW.PrintWords Go.Proofs.YtohhlkabejangaaW.PrintLast Go.Proofs.YtohhlkabejangaaW.PrintMore Go.Proofs.Ytohhlkabejangaa.PAs
set_option linter.unusedVariables false
set_option linter.unusedSimpArgs false
/-! ### A map of members and their partitions, as a rising list -/
/-- how a member's partitions read: nil where it has none -/
def dz (zs : List Int) : DataW Unit := if zs = [] then .nil else .slice (lits .i64 zs) []
abbrev Gr := List UInt8 × List Int
def entG (p : Gr) : Lit × DataW Unit := (.string p.1, dz p.2)
def datG (l : List Gr) : DataW Unit := .map (l.map entG)
theorem bb_lt : ∀ (a b : List UInt8), bytesBefore a b = decide (a < b)
  | [], [] => by simp [bytesBefore]
  | [], _ :: _ => by simp [bytesBefore]
  | _ :: _, [] => by simp [bytesBefore]
  | x :: a, y :: b => by
    have ih := bb_lt a b
    simp only [bytesBefore, ih, List.cons_lt_cons_iff]
    by_cases h1 : x < y
    · simp [h1]
    · by_cases h2 : x = y
      · subst h2; simp [h1]
      · simp [h1, h2]
theorem same_str (a b : List UInt8) : (Lit.string a).sameKey (.string b) = decide (a = b) := by
  simp only [Lit.sameKey]
  rw [Bool.eq_iff_iff]
  simp
theorem filterG (l : List Gr) (x : List UInt8) (h : ∀ y ∈ l, y.1 < x) : (l.map entG).filter (fun q => !q.1.sameKey (.string x)) = l.map entG := by
  rw [List.filter_eq_self]
  intro q hq
  obtain ⟨y, hy, rfl⟩ := List.mem_map.1 hq
  have h1 := h y hy
  have h2 : y.1 ≠ x := fun e => List.lt_irrefl x (e ▸ h1)
  unfold entG
  rw [same_str, decide_eq_false h2]
  rfl
theorem insG (l : List Gr) (x : Gr) (h : ∀ y ∈ l, y.1 < x.1) : DataW.insert (entG x) (l.map entG) = (l ++ [x]).map entG := by
  induction l with
  | nil => rfl
  | cons y l ih =>
    have h1 := h y List.mem_cons_self
    have h2 : (entG x).1.before (entG y).1 = false := by
      show bytesBefore x.1 y.1 = false
      rw [bb_lt]
      exact decide_eq_false (fun h3 => List.lt_irrefl y.1 (List.lt_trans h1 h3))
    rw [List.map_cons, DataW.insert, if_neg (by rw [h2]; decide), ih (fun z hz => h z (List.mem_cons_of_mem _ hz))]
    rfl
theorem putG_new (l : List Gr) (x : List UInt8) (zs : List Int) (h : ∀ y ∈ l, y.1 < x) : (datG l).put (.string x) (dz zs) = datG (l ++ [(x, zs)]) := by
  show DataW.map (DataW.insert (entG (x, zs)) ((l.map entG).filter (fun q => !q.1.sameKey (.string x)))) = _
  rw [filterG l x h, insG l (x, zs) h]
  rfl
theorem putG_same (l : List Gr) (x : List UInt8) (zs zs' : List Int) (h : ∀ y ∈ l, y.1 < x) : (datG (l ++ [(x, zs)])).put (.string x) (dz zs') = datG (l ++ [(x, zs')]) := by
  show DataW.map (DataW.insert (entG (x, zs')) (((l ++ [(x, zs)]).map entG).filter (fun q => !q.1.sameKey (.string x)))) = _
  have e : ((l ++ [(x, zs)]).map entG).filter (fun q => !q.1.sameKey (.string x)) = l.map entG := by
    rw [List.map_append, List.filter_append, filterG l x h]
    have : ([(x, zs)].map entG).filter (fun q => !q.1.sameKey (.string x)) = [] := by
      rw [List.filter_eq_nil_iff]
      intro q hq
      obtain rfl := List.mem_singleton.1 hq
      unfold entG
      rw [same_str, decide_eq_true rfl]
      decide
    rw [this, List.append_nil]
  rw [e, insG l (x, zs') h]
  rfl
theorem atG_none (l : List Gr) (x : List UInt8) (h : ∀ y ∈ l, y.1 ≠ x) : (datG l).atKey (.string x) .nil = .nil := by
  unfold datG DataW.atKey
  dsimp only
  have : (l.map entG).find? (fun q => q.1.sameKey (.string x)) = none := by
    rw [List.find?_eq_none]
    intro q hq
    obtain ⟨y, hy, rfl⟩ := List.mem_map.1 hq
    unfold entG
    rw [same_str, decide_eq_false (h y hy)]
    decide
  rw [this]
theorem atG_mem (l : List Gr) (hd : l.Pairwise (fun a b => a.1 < b.1)) (x : Gr) (hx : x ∈ l) : (datG l).atKey (.string x.1) .nil = dz x.2 := by
  unfold datG DataW.atKey
  dsimp only
  induction l with
  | nil => cases hx
  | cons y l ih =>
    obtain ⟨h1, h2⟩ := List.pairwise_cons.1 hd
    have e : (entG y).1.sameKey (.string x.1) = decide (y.1 = x.1) := same_str _ _
    rw [List.map_cons]
    rcases List.mem_cons.1 hx with rfl | hx
    · rw [List.find?_cons_of_pos (by rw [e]; exact decide_eq_true rfl)]
      rfl
    · have hne : y.1 ≠ x.1 := fun h => List.lt_irrefl x.1 (h ▸ h1 x hx)
      rw [List.find?_cons_of_neg (by rw [e, decide_eq_false hne]; decide)]
      exact ih h2 hx
theorem hasG (l : List Gr) (x : List UInt8) : Maps.has (datG l) (.string x) = l.any (fun y => decide (y.1 = x)) := by
  show (l.map entG).any (fun q => q.1.sameKey (.string x)) = _
  rw [List.any_map]
  congr 1
  funext y
  exact same_str _ _
theorem sizeG (l : List Gr) : Maps.size (datG l) = l.length := List.length_map _
/-- the way a row of numbers reads, where it is nil just if empty -/
theorem row_dz {v : Value} {zs : List Int} {w : World} {base e : Nat} (h : w.ownsInts base e .i64 v zs) (hn : zs = [] → v = .slice none 0 0) : rowDatum .i64 v zs = dz zs := by
  unfold dz
  by_cases c : zs = []
  · rw [if_pos c, hn c]
    rfl
  · rw [if_neg c]
    exact h.datum_pos c
theorem dz_inj {a b : List Int} (h : dz a = dz b) : a = b := by
  unfold dz at h
  split at h
  · split at h
    · simp_all
    · cases h
  · split at h
    · cases h
    · simp only [DataW.slice.injEq, and_true] at h
      unfold lits at h
      exact (List.map_inj_right (fun x y e => by simpa using e)).1 h
/-- of n partitions those of the i-th of s members -/
def cntG (n s i : Nat) : Nat := n / s + if i < n % s then 1 else 0
def numsG (a c : Nat) : List Int := (List.range c).map fun j => ((a + j : Nat) : Int)
def startG (n s : Nat) : Nat → Nat
  | 0 => 0
  | i + 1 => startG n s i + cntG n s i
/-- the first i members' partitions -/
def rowsG (n : Nat) (ss : List (List UInt8)) : Nat → List Gr
  | 0 => []
  | i + 1 => rowsG n ss i ++ [(ss.getD i [], numsG (startG n ss.length i) (cntG n ss.length i))]
theorem numsG_succ (a c : Nat) : numsG a (c + 1) = numsG a c ++ [((a + c : Nat) : Int)] := by
  unfold numsG
  rw [List.range_succ, List.map_append]
  rfl
theorem numsG_length (a c : Nat) : (numsG a c).length = c := by unfold numsG; simp
theorem rowsG_length (n : Nat) (ss : List (List UInt8)) : ∀ i, (rowsG n ss i).length = i
  | 0 => rfl
  | i + 1 => by unfold rowsG; rw [List.length_append, rowsG_length n ss i]; rfl
theorem rowsG_lt (n : Nat) (ss : List (List UInt8)) (hs : ss.Pairwise (fun a b => a < b)) : ∀ i, ∀ (hi : i < ss.length), ∀ y ∈ rowsG n ss i, y.1 < ss.getD i []
  | 0, hi, y, h => by cases h
  | i + 1, hi, y, h => by
    unfold rowsG at h
    have hl : ss.getD i [] < ss.getD (i + 1) [] := by
      rw [List.getD_eq_getElem?_getD, List.getD_eq_getElem?_getD, List.getElem?_eq_getElem hi, List.getElem?_eq_getElem (by omega)]
      exact (List.pairwise_iff_getElem.1 hs) i (i + 1) (by omega) hi (by omega)
    rcases List.mem_append.1 h with h | h
    · exact List.lt_trans (rowsG_lt n ss hs i (by omega) y h) hl
    · rw [List.mem_singleton.1 h]
      exact hl
end Go.Proofs.Ytohhlkabejangaa.As
