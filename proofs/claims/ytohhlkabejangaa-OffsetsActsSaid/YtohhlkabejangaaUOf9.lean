import Derived.Test.YtohhlkabejangaaUOf7
import Derived.Test.YtohhlkabejangaaUOf8
-- halved
namespace Go.Proofs.Ytohhlkabejangaa.Of
set_option linter.unusedVariables false
set_option linter.unusedSimpArgs false
open Go.RowKit Go.Maps Go.Sort Go.Lib Go.Shelf Go.Proofs.YtohhlkabejangaaW.PrintWords Go.Proofs.YtohhlkabejangaaW.PrintLast Go.Proofs.YtohhlkabejangaaW.PrintMore Go.Proofs.Ytohhlkabejangaa.POf
theorem rowK_cells {W : World} {base : Nat} {v : Value} {ys : List Ky} (h : W.ownsRow base 74 3 v ys.length (ys.flatMap encK)) :
  ∃ a c, v = .slice a ys.length c ∧ (ys ≠ [] → ∃ g cur, a = some ⟨g, 0, none⟩ ∧ base ≤ g ∧ W.heap[g]? = some (.cells cur 74 (0, 0)) ∧ cur.toList.take (ys.length * 3) = ys.flatMap encK) := by
 rcases h.2 with ⟨rfl, hn⟩ | ⟨g, cap, cur, rfl, hbg, hg, r1, r2, r3, r4⟩
 ·have : ys = [] := List.eq_nil_of_length_eq_zero hn
  subst this
  exact ⟨none, 0, rfl, fun h => (h rfl).elim⟩
 ·exact ⟨_, _, rfl, fun _ => ⟨g, cur, rfl, hbg, hg, r4⟩⟩
theorem rowK_at {W : World} {g : Nat} {cur : Array Value} {e : TypeId} {ys : List Ky} (hg : W.heap[g]? = some (.cells cur e (0, 0))) (ht : cur.toList.take (ys.length * 3) = ys.flatMap encK) {k : Nat} {x : Ky} (hk : ys[k]? = some x) :
  W.cell? ⟨g, k * 3, none⟩ = some (.string x.g) ∧ W.cell? ⟨g, k * 3 + 1, none⟩ = some (.string x.t) ∧ W.cell? ⟨g, k * 3 + 2, none⟩ = some (.int .i64 x.p) := by
 have hk' : k < ys.length := (List.getElem?_eq_some_iff.1 hk).1
 have hx : ys[k]! = x := by rw [getElem!_pos _ k hk']; exact (List.getElem?_eq_some_iff.1 hk).2
 have key : ∀ j, j < 3 → W.cell? ⟨g, k * 3 + j, none⟩ = some ((encK x)[j]!) := fun j hj => by
  have h1 : (cur.toList.take (ys.length * 3))[k * 3 + j]? = (ys.flatMap encK)[k * 3 + j]? := by rw [ht]
  rw [List.getElem?_take_of_lt (by omega), flat_get, if_pos (by omega), show (k * 3 + j) / 3 = k by omega, show (k * 3 + j) % 3 = j by omega, hx] at h1
  simp only [World.cell?, hg]
  simp only [Option.isSome_none, Bool.false_eq_true, if_false]
  rw [← Array.getElem?_toList, h1]
 exact ⟨key 0 (by omega), key 1 (by omega), key 2 (by omega)⟩
end Go.Proofs.Ytohhlkabejangaa.Of
