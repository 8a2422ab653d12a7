import Derived.Test.YteopponjfkeagaaLat8
namespace Go.Proofs.Yteopponjfkeagaa.Lat
open Go.RowKit Go.Maps Go.Proofs.YteopponjfkeagaaW.PrintWords Go.Proofs.YteopponjfkeagaaW.PrintLast Go.Proofs.YteopponjfkeagaaW.PrintMore
set_option linter.unusedVariables false
set_option linter.unusedSimpArgs false

/-- the flows when the first i rows of the table are laid -/
def flR (f : List (List Bool)) (i : Nat) (q : Nat) : Bool := if q / 6 < i then (f.getD (q / 6) []).getD (q % 6) false else false
theorem latC_ext {n : Nat} {F F' : Nat → Bool} {jm mm : Nat} {bot top : Int} (h : ∀ q, q < 36 → F q = F' q) : latC n F jm mm bot top = latC n F' jm mm bot top := by
  unfold latC
  have : (List.range 36).map (fun i => Value.bool (F i)) = (List.range 36).map (fun i => Value.bool (F' i)) := List.map_congr_left fun q hq => by rw [h q (List.mem_range.1 hq)]
  rw [this]
theorem splice_get {α : Type} (L r : List α) (o j : Nat) (h : o + r.length ≤ L.length) : (L.take o ++ r ++ L.drop (o + r.length))[j]? = if j < o then L[j]? else if j < o + r.length then r[j - o]? else L[j]? := by
  have h1 : (L.take o).length = o := by rw [List.length_take]; omega
  by_cases hj : j < o
  · rw [if_pos hj, List.append_assoc, List.getElem?_append_left (by rw [h1]; exact hj), List.getElem?_take_of_lt hj]
  · rw [if_neg hj]
    by_cases hj2 : j < o + r.length
    · rw [if_pos hj2, List.append_assoc, List.getElem?_append_right (by rw [h1]; omega), h1, List.getElem?_append_left (by omega)]
    · rw [if_neg hj2, List.getElem?_append_right (by rw [List.length_append, h1]; omega), List.length_append, h1, List.getElem?_drop]
      congr 1
      omega
theorem latC_get (n : Nat) (F : Nat → Bool) (jm mm : Nat) (bot top : Int) (j : Nat) : (latC n F jm mm bot top).toList[j]? = if j = 0 then some (.int .i64 n) else if j < 37 then some (.bool (F (j - 1))) else [Value.map (some jm), .map (some mm), .int .i64 bot, .int .i64 top][j - 37]? := by
  unfold latC
  show ((Value.int .i64 n) :: ((List.range 36).map (fun i => Value.bool (F i)) ++ [Value.map (some jm), .map (some mm), .int .i64 bot, .int .i64 top]))[j]? = _
  match j with
  | 0 => rfl
  | j + 1 =>
    rw [List.getElem?_cons_succ, if_neg (by omega)]
    by_cases h : j + 1 < 37
    · rw [if_pos h, List.getElem?_append_left (by simp; omega), List.getElem?_map, List.getElem?_range (by omega)]
      rfl
    · rw [if_neg h, List.getElem?_append_right (by simp; omega)]
      simp
theorem latC_length (n : Nat) (F : Nat → Bool) (jm mm : Nat) (bot top : Int) : (latC n F jm mm bot top).toList.length = 41 := by
  unfold latC
  simp
theorem latC_row (n : Nat) (F : Nat → Bool) (jm mm : Nat) (bot top : Int) (i : Nat) (row : List Bool) (hi : i < 6) (hr : row.length ≤ 6) :
    ((latC n F jm mm bot top).toList.take (1 + i * 6) ++ row.map Value.bool ++ (latC n F jm mm bot top).toList.drop (1 + i * 6 + (row.map Value.bool).length)).toArray = latC n (fun q => if i * 6 ≤ q ∧ q < i * 6 + row.length then row.getD (q - i * 6) false else F q) jm mm bot top := by
  apply Array.toList_inj.1
  apply List.ext_getElem?
  intro j
  show (_ : List Value)[j]? = _
  rw [splice_get _ _ _ _ (by rw [latC_length, List.length_map]; omega), latC_get, latC_get, List.length_map]
  by_cases h0 : j = 0
  · rw [if_pos h0, if_pos (by omega), if_pos h0]
  rw [if_neg h0, if_neg h0]
  by_cases h1 : j < 37
  · rw [if_pos h1, if_pos h1]
    by_cases h2 : j < 1 + i * 6
    · rw [if_pos h2, if_neg (by omega)]
    · rw [if_neg h2]
      by_cases h3 : j < 1 + i * 6 + row.length
      · rw [if_pos h3, if_pos (by omega), List.getElem?_map, List.getD_eq_getElem?_getD, show j - 1 - i * 6 = j - (1 + i * 6) by omega, List.getElem?_eq_getElem (by omega)]
        rfl
      · rw [if_neg h3, if_neg (by omega)]
  · rw [if_neg h1, if_neg h1, if_neg (by omega), if_neg (by omega)]
end Go.Proofs.Yteopponjfkeagaa.Lat
