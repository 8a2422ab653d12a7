import Derived.Test.YtohhlkabejangaaUOf4
-- halved
namespace Go.Proofs.Ytohhlkabejangaa.Of
set_option linter.unusedVariables false
set_option linter.unusedSimpArgs false
open Go.RowKit Go.Maps Go.Sort Go.Lib Go.Shelf Go.Proofs.YtohhlkabejangaaW.PrintWords Go.Proofs.YtohhlkabejangaaW.PrintLast Go.Proofs.YtohhlkabejangaaW.PrintMore Go.Proofs.Ytohhlkabejangaa.POf
theorem flat_get : ∀ (xs : List Ky) (t : Nat), (xs.flatMap encK)[t]? = if t < xs.length * 3 then some ((encK (xs[t / 3]!))[t % 3]!) else none
 | [], t => by simp
 | x :: xs, t => by
  rw [List.flatMap_cons, List.getElem?_append]
  by_cases h : t < 3
  ·rw [if_pos (by simpa [encK] using h)]
   match t, h with
   | 0, _ => simp [encK]
   | 1, _ => simp [encK]; omega
   | 2, _ => simp [encK]; omega
  ·obtain ⟨s, rfl⟩ : ∃ s, t = s + 3 := ⟨t - 3, by omega⟩
   rw [if_neg (by simp [encK])]
   have e : s + 3 - (encK x).length = s := by simp [encK]
   rw [e, flat_get xs s, show (s + 3) / 3 = s / 3 + 1 by omega, show (s + 3) % 3 = s % 3 by omega]
   have e2 : (x :: xs)[s / 3 + 1]! = xs[s / 3]! := by simp
   rw [e2]
   by_cases h2 : s < xs.length * 3
   ·rw [if_pos h2, if_pos (by simp; omega)]
   ·rw [if_neg h2, if_neg (by simp; omega)]
theorem flatK_list (d : Array Ky) : (flatK encK 3 d).toList = d.toList.flatMap encK := by
 apply List.ext_getElem?
 intro t
 rw [flat_get, Array.getElem?_toList]
 by_cases h : t < d.size * 3
 ·rw [if_pos (by simpa using h)]
  have h1 := get_flatK encK 3 d t h
  have h2 : t < (flatK encK 3 d).size := by simpa using h
  rw [Array.getElem?_eq_getElem h2]
  rw [getElem!_pos _ t h2] at h1
  rw [h1, show d.toList[t / 3]! = d[t / 3]! from by simp [Array.getElem!_eq_getD, List.getElem!_eq_getElem?_getD, Array.getD_eq_getD_getElem?]]
 ·rw [if_neg (by simpa using h), Array.getElem?_eq_none (by simpa using h)]
theorem holdsK_of {w : World} {g : Nat} {cur : Array Value} {e : TypeId} {xs : List Ky} (hb : w.heap[g]? = some (.cells cur e (0, 0))) (ht : cur.toList.take (xs.length * 3) = xs.flatMap encK) : HoldsK encK 3 w g 0 xs.toArray := by
 intro j hj
 have hj' : j < xs.length * 3 := by simpa using hj
 refine ⟨?_, by simp [World.frozen?, hb]⟩
 have h1 : (cur.toList.take (xs.length * 3))[j]? = (xs.flatMap encK)[j]? := by rw [ht]
 rw [List.getElem?_take_of_lt hj'] at h1
 have h2 : (flatK encK 3 xs.toArray).toList[j]? = (xs.flatMap encK)[j]? := by rw [flatK_list]
 simp only [World.cell?, hb, Nat.zero_add]
 simp only [Option.isSome_none, Bool.false_eq_true, if_false]
 rw [← Array.getElem?_toList, h1, ← h2, Array.getElem?_toList, Array.getElem?_eq_getElem hj, getElem!_pos _ j hj]
 rfl
theorem heap_sortedV {w : World} {g n : Nat} {os : Array Obj} {cur : Array Value} {e : TypeId} {fr : Nat × Nat} (d : Array Value) (hb : w.heap[g]? = some (.cells cur e fr)) :
  (grow (putRow id (Sort.ahead w n) g 0 d) os).heap[g]? = some (.cells (putCells id 0 d cur) e fr) := by
 have hg : g < w.heap.size := (Array.getElem?_eq_some_iff.1 hb).1
 rw [heap_grow_old _ _ (by simpa using hg)]
 simp [putRow, mapBlock, Sort.ahead, Array.getElem?_modify, hb, onCells]
theorem grownBy_sortedV {w : World} {g n : Nat} {os : Array Obj} (d : Array Value) : w.grownBy (grow (putRow id (Sort.ahead w n) g 0 d) os) (some g) := by
 refine ⟨rfl, rfl, rfl, by simp, fun k hk hne => ?_⟩
 rw [heap_grow_old _ _ (by simpa using hk)]
 have : g ≠ k := fun e => hne (by rw [e])
 simp [putRow, mapBlock, Sort.ahead, Array.getElem?_modify, this]
theorem take_putCellsV (cur F : Array Value) (h : F.size ≤ cur.size) : (putCells id 0 F cur).toList.take F.size = F.toList := by
 apply List.ext_getElem?
 intro j
 by_cases hj : j < F.size
 ·rw [List.getElem?_take_of_lt hj, Array.getElem?_toList]
  simp [putCells, hj, show j < cur.size by omega]
 ·rw [List.getElem?_take_eq_none (by omega), List.getElem?_eq_none (by simp; omega)]
theorem ownsRow_sortedK {w : World} {base g cap n : Nat} {e : TypeId} {os : Array Obj} {cur : Array Value} {m : Nat} {d : Array Ky} (hl : d.size = m) (hbase : base ≤ g) (hb : w.heap[g]? = some (.cells cur e (0, 0)))
  (h1 : m ≤ cap) (h2 : cap ≤ maxLen) (h3 : cur.size = cap * 3) :
  (sortWorldK encK 3 w g 0 n d os).ownsRow base e 3 (.slice (some ⟨g, 0, none⟩) m cap) m (d.toList.flatMap encK) := by
 have hF : (flatK encK 3 d).size = m * 3 := by simp [hl]
 refine ⟨?_, .inr ⟨g, cap, _, rfl, hbase, heap_sortedV _ hb, h1, h2, by simp [putCells, h3], ?_⟩⟩
 ·rw [← flatK_list]
  simp [hl]
 ·rw [← hF, take_putCellsV _ _ (by rw [hF, h3]; omega), flatK_list]
end Go.Proofs.Ytohhlkabejangaa.Of
