import Derived.Test.YtlgihjhlkpmpnaaRWireC
namespace Go.Proofs.Ytlgihjhlkpmpnaa.Wire
set_option linter.unusedVariables false
set_option linter.unusedSimpArgs false
open Go.RowKit Go.Proofs.YtlgihjhlkpmpnaaW.PrintWords Go.Proofs.YtlgihjhlkpmpnaaW.PrintLast Go.Proofs.YtlgihjhlkpmpnaaW.PrintMore Go.Proofs.Ytlgihjhlkpmpnaa.PWire

theorem iterPos_of {W : World} {g pos : Nat} {s : ByteArray} (h : W.heap[g]? = some (.stringIter s pos)) : W.iterPos g = pos := by simp [World.iterPos, h]
/-- a request's pairs, as they are read -/
structure Prs (w : World) (A : Option Addr) (n k : Nat) (l : List S102) : Prop where
  c : Kd.C k102 w A n l
  a : A = none → k = 0
  b : n * 40 ≤ 140737488355328
theorem Prs.below {w W : World} {A : Option Addr} {n k : Nat} {l : List S102} (h : Prs w A n k l) (hb : Below w.heap.size w W) : Prs W A n k l := ⟨Kd.C_below h.c hb, h.a, h.b⟩
def cleanL (x : Rq) (l : List Int) : Rq := l.foldl (cleanStep x) (rq0 x.kind x.id)
def pairsL (l : List S102) (ls : List Int) : List S102 := if (66 : Int) ∈ ls then l else []
theorem lets_at (s : ByteArray) (pos : Nat) (h : pos < s.size) : (lets s).take (pos + 1) = (lets s).take pos ++ [((s[pos]'h).toNat : Int)] := by
  have e : s.data.toList[pos]? = some (s[pos]'h) := by
    rw [List.getElem?_eq_getElem (by simpa using h)]
    rfl
  rw [List.take_add_one]
  congr 1
  unfold lets
  rw [List.getElem?_map, e]
  rfl
theorem lets_all (s : ByteArray) (pos : Nat) (h : ¬ pos < s.size) : (lets s).take pos = lets s := List.take_of_length_le (by simp [lets]; omega)
theorem grown_more {a b c : World} {g : Nat} (h : a.grownBy b (some g)) (h' : b.grownBy c (some g)) : a.grownBy c (some g) :=
  ⟨h'.os.trans h.os, h'.tape.trans h.tape, h'.output.trans h.output, Nat.le_trans h.size h'.size, fun k hk hne => (h'.block k (Nat.lt_of_lt_of_le hk h.size) hne).trans (h.block k hk hne)⟩
theorem put5 {W : World} {g : Nat} {y : Rq} {u : Value} {t : TypeId} (h : W.heap[g]? = some (.cells (y.cs u) t (0, 0))) (a b c d e : Value) :
    (((((W.setCell ⟨g, 7, none⟩ a).setCell ⟨g, 8, none⟩ b).setCell ⟨g, 9, none⟩ c).setCell ⟨g, 10, none⟩ d).setCell ⟨g, 11, none⟩ e).heap[g]? = some (.cells ((((((y.cs u).setIfInBounds 7 a).setIfInBounds 8 b).setIfInBounds 9 c).setIfInBounds 10 d).setIfInBounds 11 e) t (0, 0)) ∧ W.grownBy (((((W.setCell ⟨g, 7, none⟩ a).setCell ⟨g, 8, none⟩ b).setCell ⟨g, 9, none⟩ c).setCell ⟨g, 10, none⟩ d).setCell ⟨g, 11, none⟩ e) (some g) :=
  ⟨blk_set (blk_set (blk_set (blk_set (blk_set h 7 a) 8 b) 9 c) 10 d) 11 e, by
    exact grown_more (grown_more (grown_more (grown_more (grown_setCell W g 7 a) (grown_setCell _ g 8 b)) (grown_setCell _ g 9 c)) (grown_setCell _ g 10 d)) (grown_setCell _ g 11 e)⟩
end Go.Proofs.Ytlgihjhlkpmpnaa.Wire
