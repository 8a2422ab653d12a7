import Derived.Test.YteopponjfkeagaaMa
import Derived.Laws.CopyRow
import Derived.Laws.CopyOwn
import Derived.Deep.RegionHeld3
namespace Go.Proofs.Yteopponjfkeagaa.Lat
open Go.RowKit Go.Maps Go.Proofs.YteopponjfkeagaaW.PrintWords Go.Proofs.YteopponjfkeagaaW.PrintLast Go.Proofs.YteopponjfkeagaaW.PrintMore
set_option linter.unusedVariables false
set_option linter.unusedSimpArgs false

/-- the flows when the first i rows of the table are laid -/
def flR (f : List (List Bool)) (i : Nat) (q : Nat) : Bool := if q / 6 < i then (f.getD (q / 6) []).getD (q % 6) false else false
theorem latC_ext {n : Nat} {F F' : Nat → Bool} {jm mm : Nat} {bot top : Int} (h : ∀ q, q < 36 → F q = F' q) : latC n F jm mm bot top = latC n F' jm mm bot top := by
  unfold latC
  have : (List.range 36).map (fun i => Value.bool (F i)) = (List.range 36).map (fun i => Value.bool (F' i)) := List.map_congr_left fun q hq => by rw [h q (List.mem_range.1 hq)]
  rw [this]
theorem splice_get {α : Type} (L r : List α) (o j : Nat) (h : o + r.length ≤ L.length) : (L.take o ++ r ++ L.drop (o + r.length))[j]? = if j < o then L[j]? else if j < o + r.length then r[j - o]? else L[j]? := by
  have h1 : (L.take o).length = o := by rw [List.length_take]; omega
  by_cases hj : j < o
  · rw [if_pos hj, List.append_assoc, List.getElem?_append_left (by rw [h1]; exact hj), List.getElem?_take_of_lt hj]
  · rw [if_neg hj]
    by_cases hj2 : j < o + r.length
    · rw [if_pos hj2, List.append_assoc, List.getElem?_append_right (by rw [h1]; omega), h1, List.getElem?_append_left (by omega)]
    · rw [if_neg hj2, List.getElem?_append_right (by rw [List.length_append, h1]; omega), List.length_append, h1, List.getElem?_drop]
      congr 1
      omega
theorem latC_get (n : Nat) (F : Nat → Bool) (jm mm : Nat) (bot top : Int) (j : Nat) : (latC n F jm mm bot top).toList[j]? = if j = 0 then some (.int .i64 n) else if j < 37 then some (.bool (F (j - 1))) else [Value.map (some jm), .map (some mm), .int .i64 bot, .int .i64 top][j - 37]? := by
  unfold latC
  show ((Value.int .i64 n) :: ((List.range 36).map (fun i => Value.bool (F i)) ++ [Value.map (some jm), .map (some mm), .int .i64 bot, .int .i64 top]))[j]? = _
  match j with
  | 0 => rfl
  | j + 1 =>
    rw [List.getElem?_cons_succ, if_neg (by omega)]
    by_cases h : j + 1 < 37
    · rw [if_pos h, List.getElem?_append_left (by simp; omega), List.getElem?_map, List.getElem?_range (by omega)]
      rfl
    · rw [if_neg h, List.getElem?_append_right (by simp; omega)]
      simp
theorem latC_length (n : Nat) (F : Nat → Bool) (jm mm : Nat) (bot top : Int) : (latC n F jm mm bot top).toList.length = 41 := by
  unfold latC
  simp
theorem latC_row (n : Nat) (F : Nat → Bool) (jm mm : Nat) (bot top : Int) (i : Nat) (row : List Bool) (hi : i < 6) (hr : row.length ≤ 6) :
    ((latC n F jm mm bot top).toList.take (1 + i * 6) ++ row.map Value.bool ++ (latC n F jm mm bot top).toList.drop (1 + i * 6 + (row.map Value.bool).length)).toArray = latC n (fun q => if i * 6 ≤ q ∧ q < i * 6 + row.length then row.getD (q - i * 6) false else F q) jm mm bot top := by
  apply Array.toList_inj.1
  apply List.ext_getElem?
  intro j
  show (_ : List Value)[j]? = _
  rw [splice_get _ _ _ _ (by rw [latC_length, List.length_map]; omega), latC_get, latC_get, List.length_map]
  by_cases h0 : j = 0
  · rw [if_pos h0, if_pos (by omega), if_pos h0]
  rw [if_neg h0, if_neg h0]
  by_cases h1 : j < 37
  · rw [if_pos h1, if_pos h1]
    by_cases h2 : j < 1 + i * 6
    · rw [if_pos h2, if_neg (by omega)]
    · rw [if_neg h2]
      by_cases h3 : j < 1 + i * 6 + row.length
      · rw [if_pos h3, if_pos (by omega), List.getElem?_map, List.getD_eq_getElem?_getD, show j - 1 - i * 6 = j - (1 + i * 6) by omega, List.getElem?_eq_getElem (by omega)]
        rfl
      · rw [if_neg h3, if_neg (by omega)]
  · rw [if_neg h1, if_neg h1, if_neg (by omega), if_neg (by omega)]
end Go.Proofs.Yteopponjfkeagaa.Lat
namespace Go.Proofs.Yteopponjfkeagaa.Lat
open Go.RowKit Go.Maps Go.Proofs.YteopponjfkeagaaW.PrintWords Go.Proofs.YteopponjfkeagaaW.PrintLast Go.Proofs.YteopponjfkeagaaW.PrintMore
set_option linter.unusedVariables false
set_option linter.unusedSimpArgs false

def rowOf (f : List (List Bool)) (i : Nat) : List Bool := f.getD i []
theorem at_row {w : World} {A : Option Addr} {n : Nat} {f : List (List Bool)} (h : Kd.C (Kd.slice 4 Kd.bool) w A n f) (i : Nat) (h1 : i < n) : ∃ ad A0 c0, A = some ad ∧ w.cell? (ad.add i) = some (.slice A0 (rowOf f i).length c0) ∧ (rowOf f i).length ≤ c0 ∧ Kd.bool.C w A0 (rowOf f i).length (rowOf f i) := by
  obtain ⟨ad, c, e, _, hK, hc0⟩ := Kd.C_get h ([] : List Bool) (i : Int) (by omega) (by omega)
  have hc : ∀ j u, c[j]? = some u → w.cell? (ad.add ((i : Int).toNat * 1 + j)) = some u := hc0
  obtain ⟨A0, c0, rfl, l0, g0⟩ := hK
  exact ⟨ad, A0, c0, e, by have hq := hc 0 _ rfl; rwa [Nat.mul_one, Nat.add_zero, Int.toNat_natCast] at hq, l0, g0⟩
theorem size_bool : (Try.prog.info? 4).map (·.size) = some 1 := by kernel_rfl
/-- a row goes over into the table -/
theorem copy_row {W : World} {g n : Nat} {F : Nat → Bool} {jm mm : Nat} {bot top : Int} (hg : W.heap[g]? = some (.cells (latC n F jm mm bot top) 79 (0, 0))) (i : Nat) (hi : i < 6) {ad : Addr} {row : List Bool} {c : Nat} (hr : row.length ≤ 6) (hR : Kd.bool.C W (some ad) row.length row) (ty : TypeId) :
    (Builtin.copy_ #[37, 37] ty #[.slice (some ⟨g, 1 + i * 6, none⟩) 6 6, .slice (some ad) row.length c]).run Try.prog W = .ok (goInt row.length) (W.setRow g (latC n (fun q => if i * 6 ≤ q ∧ q < i * 6 + row.length then row.getD (q - i * 6) false else F q) jm mm bot top)) := by
  have h := run_copy_row (P := Try.prog) W 37 37 ty 4 g (1 + i * 6) 6 6 ad row.length c (latC n F jm mm bot top) 79 (row.map Value.bool) Try.underlying37 size_bool hg (by rw [List.length_map]; exact (Nat.min_eq_left hr).symm) (by
    intro j v hj
    rw [List.getElem?_map] at hj
    obtain ⟨x, hx, rfl⟩ := Option.map_eq_some_iff.1 hj
    have hlt : j < row.length := (List.getElem?_eq_some_iff.1 hx).1
    obtain ⟨ad2, e, hc⟩ := Kd.at_bool hR (j : Int) (by omega) (by omega)
    cases e
    rw [Int.toNat_natCast] at hc
    rw [hc]
    unfold rdOf
    rw [Int.toNat_natCast, List.getD_eq_getElem?_getD, hx]
    rfl) (by have := latC_length n F jm mm bot top; rw [List.length_map]; simp only [Array.length_toList] at this; omega) (by intro v hv; obtain ⟨x, _, rfl⟩ := List.mem_map.1 hv; rfl)
  rw [latC_row n F jm mm bot top i row hi hr, List.length_map] at h
  exact h
end Go.Proofs.Yteopponjfkeagaa.Lat
namespace Go.Proofs.Yteopponjfkeagaa.Lat
open Go.RowKit Go.Maps Go.Proofs.YteopponjfkeagaaW.PrintWords Go.Proofs.YteopponjfkeagaaW.PrintLast Go.Proofs.YteopponjfkeagaaW.PrintMore
set_option linter.unusedVariables false
set_option linter.unusedSimpArgs false

/-- the order turned round -/
theorem New1_calls {g n : Nat} {F : Nat → Bool} {jm mm : Nat} {bot top : Int} {w : World} (lb : Nat) (hg : w.heap[g]? = some (.cells (latC n F jm mm bot top) 79 (0, 0))) (hl : w.heap[lb]? = some (.cells #[P g] 25 (0, 0))) (hn : n ≤ 6) (a b : Int) :
    Calls Try.prog 59 #[.int .i64 a, .int .i64 b, .pointer (some ⟨lb, 0, none⟩)] w fun e w' => e = .returned (.bool (flowsF n F b a)) ∧ Below w.heap.size w w' := by
  have c1 : w.cell? ⟨lb, 0, none⟩ = some (P g) := (blk_cell hl 0).trans rfl
  have H := Aside0.mk (Flows_calls hg hn b a)
  clear hl hg
  go_enter Try.func59, Try.ntmps59
  go_wp2_with fail
  refine H.out.mono ?_
  rintro e w1 ⟨rfl, hb⟩
  go_wp2_with fail
  go_ret
  exact ⟨rfl, hb⟩
abbrev lt (n : Nat) (F : Nat → Bool) : Int → Int → Bool := fun y x => flowsF n F y x
abbrev gt (n : Nat) (F : Nat → Bool) : Int → Int → Bool := fun y x => flowsF n F x y
/-- may the table be looked at -/
def sq (f : List (List Bool)) : Prop := 0 < f.length ∧ f.length ≤ 6 ∧ ∀ i, i < f.length → (rowOf f i).length = f.length
/-- what is below all of the first labels, by some order -/
def least (J : Int → Int → Int) : Nat → Int
  | 0 => 0
  | a + 1 => J (least J a) a
abbrev jT (n : Nat) (F : Nat → Bool) : Int → Int → Int := J n (lt n F) n 0
abbrev mT (n : Nat) (F : Nat → Bool) : Int → Int → Int := J n (gt n F) n 0
/-- a lattice stands there -/
def IsLat (w : World) (g n : Nat) (F : Nat → Bool) : Prop :=
  ∃ jm mm : Nat, w.heap[g]? = some (.cells (latC n F jm mm (least (mT n F) n) (least (jT n F) n)) 79 (0, 0)) ∧ Tab w jm 36 (jT n F) ∧ Tab w mm 36 (mT n F)
def full (n : Nat) (T : Int → Int → Bool) : Prop := ∀ i j : Nat, i < n → j < n → G n T i j ≠ -1
theorem not_full {n : Nat} {T : Int → Int → Bool} (h : ∃ i j : Nat, i < n ∧ j < n ∧ G n T i j = -1) : ¬ full n T := by
  obtain ⟨i, j, hi, hj, e⟩ := h
  exact fun hf => hf i j hi hj e
def NewTells (f : List (List Bool)) (e : Ending) (w' : World) : Prop :=
  (¬ sq f ∧ e = .returned (.tuple #[.pointer none, .int .i64 1])) ∨
  (sq f ∧ ¬ orderP f.length (flR f f.length) ∧ e = .returned (.tuple #[.pointer none, .int .i64 4])) ∨
  (sq f ∧ orderP f.length (flR f f.length) ∧ ¬ (full f.length (lt f.length (flR f f.length)) ∧ full f.length (gt f.length (flR f f.length))) ∧ e = .returned (.tuple #[.pointer none, .int .i64 6])) ∨
  (sq f ∧ orderP f.length (flR f f.length) ∧ full f.length (lt f.length (flR f f.length)) ∧ full f.length (gt f.length (flR f f.length)) ∧ ∃ g, e = .returned (.tuple #[P g, .int .i64 0]) ∧ IsLat w' g f.length (flR f f.length))

theorem flR_row {f : List (List Bool)} (i n : Nat) (hn : n ≤ 6) (h : (rowOf f i).length = n) : ∀ q, q < 36 → (if i * 6 ≤ q ∧ q < i * 6 + (rowOf f i).length then (rowOf f i).getD (q - i * 6) false else flR f i q) = flR f (i + 1) q := by
  intro q hq
  unfold flR
  by_cases h1 : q / 6 < i
  · rw [if_neg (by omega), if_pos h1, if_pos (by omega)]
  · by_cases h2 : q / 6 < i + 1
    · have e : q / 6 = i := by omega
      rw [if_neg h1, if_pos h2, e]
      have e2 : q - i * 6 = q % 6 := by omega
      rw [e2]
      unfold rowOf at h ⊢
      split
      · rfl
      · rename_i hc
        rw [List.getD_eq_getElem?_getD, List.getElem?_eq_none (by omega)]
        rfl
    · rw [if_neg h1, if_neg h2, if_neg (by omega)]
theorem flR_zero (f : List (List Bool)) : flR f 0 = fun _ => false := by
  funext q
  unfold flR
  rw [if_neg (by omega)]

theorem not_sq0 {f : List (List Bool)} (h : (f.length : Int) = 0) : ¬ sq f := fun q => by have := q.1; omega
theorem not_sq6 {f : List (List Bool)} (h : (6 : Int) < f.length) : ¬ sq f := fun q => by have := q.2.1; omega
/-- how the world stands while the lattice is made: its maps, its block, the variable that holds its pointer -/
def Making (W : World) (jm n : Nat) (F : Nat → Bool) (bot top : Int) (J M : Int → Int → Int) (k l : Nat) : Prop :=
  Tab W jm k J ∧ Tab W (jm + 1) l M ∧ W.heap[jm + 1 + 1]? = some (.cells (latC n F jm (jm + 1) bot top) 79 (0, 0)) ∧ W.heap[jm + 1 + 1 + 1]? = some (.cells #[P (jm + 1 + 1)] 25 (0, 0))
theorem Making.later {W W' : World} {jm n : Nat} {F : Nat → Bool} {bot top : Int} {J M : Int → Int → Int} {k l : Nat} (h : Making W jm n F bot top J M k l) (hb : Below W.heap.size W W') : Making W' jm n F bot top J M k l :=
  ⟨h.1.later hb, h.2.1.later hb, blk_below h.2.2.1 hb, blk_below h.2.2.2 hb⟩
theorem Making.row {W : World} {jm n : Nat} {F F1 F' : Nat → Bool} {bot top bot' top' : Int} {J M : Int → Int → Int} {k l : Nat} (h : Making W jm n F bot top J M k l) (hF : ∀ q, q < 36 → F1 q = F' q) : Making (W.setRow (jm + 1 + 1) (latC n F1 jm (jm + 1) bot' top')) jm n F' bot' top' J M k l :=
  ⟨h.1.at_block (setRow_other _ _ _ _ (by omega)), h.2.1.at_block (setRow_other _ _ _ _ (by omega)), by rw [← latC_ext hF]; exact setRow_heap _ _ _ _ _ _ h.2.2.1, (setRow_other _ _ _ _ (by omega)).trans h.2.2.2⟩
theorem Making.start (w : World) (n : Nat) (F : Nat → Bool) (hF : ∀ q, q < 36 → F q = false) : Making ((((w.alloc (.map #[] 0)).alloc (.map #[] 0)).alloc (.cells (latC n F w.heap.size (w.heap.size + 1) 0 0) 79)).alloc (.cells #[P (w.heap.size + 1 + 1)] 25)) w.heap.size n F 0 0 (fun _ _ => 0) (fun _ _ => 0) 0 0 := by
  have e1 : (w.alloc (.map #[] 0)).heap.size = w.heap.size + 1 := by simp
  have e2 : ((w.alloc (.map #[] 0)).alloc (.map #[] 0)).heap.size = w.heap.size + 1 + 1 := by simp
  have e3 : (((w.alloc (.map #[] 0)).alloc (.map #[] 0)).alloc (.cells (latC n F w.heap.size (w.heap.size + 1) 0 0) 79)).heap.size = w.heap.size + 1 + 1 + 1 := by simp
  have t1 := Tab.made w
  have t2 := Tab.made (w.alloc (.map #[] 0))
  rw [e1] at t2
  have b2 : Below (w.alloc (.map #[] 0)).heap.size (w.alloc (.map #[] 0)) ((w.alloc (.map #[] 0)).alloc (.map #[] 0)) := below_alloc (Below.refl _ _) _
  have b3 : Below ((w.alloc (.map #[] 0)).alloc (.map #[] 0)).heap.size ((w.alloc (.map #[] 0)).alloc (.map #[] 0)) (((w.alloc (.map #[] 0)).alloc (.map #[] 0)).alloc (.cells (latC n F w.heap.size (w.heap.size + 1) 0 0) 79)) := below_alloc (Below.refl _ _) _
  have b4 : Below (((w.alloc (.map #[] 0)).alloc (.map #[] 0)).alloc (.cells (latC n F w.heap.size (w.heap.size + 1) 0 0) 79)).heap.size (((w.alloc (.map #[] 0)).alloc (.map #[] 0)).alloc (.cells (latC n F w.heap.size (w.heap.size + 1) 0 0) 79)) ((((w.alloc (.map #[] 0)).alloc (.map #[] 0)).alloc (.cells (latC n F w.heap.size (w.heap.size + 1) 0 0) 79)).alloc (.cells #[P (w.heap.size + 1 + 1)] 25)) := below_alloc (Below.refl _ _) _
  have g3 := blk_new ((w.alloc (.map #[] 0)).alloc (.map #[] 0)) (.cells (latC n F w.heap.size (w.heap.size + 1) 0 0) 79)
  have g4 := blk_new (((w.alloc (.map #[] 0)).alloc (.map #[] 0)).alloc (.cells (latC n F w.heap.size (w.heap.size + 1) 0 0) 79)) (.cells #[P (w.heap.size + 1 + 1)] 25)
  rw [e2] at g3
  rw [e3] at g4
  exact ⟨((t1.later b2).later b3).later b4, (t2.later b3).later b4, blk_below g3 b4, g4⟩
theorem start_below (w : World) (o1 o2 o3 o4 : Obj) : Below w.heap.size w ((((w.alloc o1).alloc o2).alloc o3).alloc o4) := below_alloc (below_alloc (below_alloc (below_alloc (Below.refl _ _) _) _) _) _

theorem Making.setBot {W : World} {jm n : Nat} {F : Nat → Bool} {bot top : Int} {J M : Int → Int → Int} {k l : Nat} (h : Making W jm n F bot top J M k l) (x : Int) : Making (W.setCell ⟨jm + 1 + 1, 39, none⟩ (.int .i64 x)) jm n F x top J M k l :=
  ⟨h.1.at_block (Below.heap_setCell _ _ _ _ (by simp; omega)), h.2.1.at_block (Below.heap_setCell _ _ _ _ (by simp)), blk_put h.2.2.1 39 _ rfl, (Below.heap_setCell _ _ _ _ (by simp)).trans h.2.2.2⟩
theorem Making.setTop {W : World} {jm n : Nat} {F : Nat → Bool} {bot top : Int} {J M : Int → Int → Int} {k l : Nat} (h : Making W jm n F bot top J M k l) (x : Int) : Making (W.setCell ⟨jm + 1 + 1, 40, none⟩ (.int .i64 x)) jm n F bot x J M k l :=
  ⟨h.1.at_block (Below.heap_setCell _ _ _ _ (by simp; omega)), h.2.1.at_block (Below.heap_setCell _ _ _ _ (by simp)), blk_put h.2.2.1 40 _ rfl, (Below.heap_setCell _ _ _ _ (by simp)).trans h.2.2.2⟩
theorem Making.cells {W : World} {jm n : Nat} {F : Nat → Bool} {bot top : Int} {J M : Int → Int → Int} {k l : Nat} (h : Making W jm n F bot top J M k l) : W.cell? ⟨jm + 1 + 1 + 1, 0, none⟩ = some (P (jm + 1 + 1)) ∧ W.cell? ⟨jm + 1 + 1, 37, none⟩ = some (.map (some jm)) ∧ W.cell? ⟨jm + 1 + 1, 38, none⟩ = some (.map (some (jm + 1))) :=
  ⟨(blk_cell h.2.2.2 0).trans rfl, (blk_cell h.2.2.1 37).trans rfl, (blk_cell h.2.2.1 38).trans rfl⟩
/-- what stays of it when a filling broke off -/
def Broken (W : World) (jm n : Nat) (F : Nat → Bool) : Prop :=
  W.cell? ⟨jm + 1 + 1 + 1, 0, none⟩ = some (P (jm + 1 + 1)) ∧ W.cell? ⟨jm + 1 + 1, 37, none⟩ = some (.map (some jm)) ∧ W.cell? ⟨jm + 1 + 1, 38, none⟩ = some (.map (some (jm + 1)))
theorem fills_full {n : Nat} {T : Int → Int → Bool} {W' : World} {mb : Nat} {e : Ending} (hf : full n T) (h : (e = .returned (.bool true) ∧ (∀ i j : Nat, i < n → j < n → G n T i j ≠ -1) ∧ Tab W' mb 36 (J n T n 0)) ∨ (e = .returned (.bool false) ∧ ∃ i j : Nat, i < n ∧ j < n ∧ G n T i j = -1)) : e = .returned (.bool true) ∧ Tab W' mb 36 (J n T n 0) := by
  rcases h with ⟨h1, _, h2⟩ | ⟨_, h⟩
  · exact ⟨h1, h2⟩
  · exact absurd hf (not_full h)
theorem fills_broken {n : Nat} {T : Int → Int → Bool} {W' : World} {mb : Nat} {e : Ending} (hf : ¬ full n T) (h : (e = .returned (.bool true) ∧ (∀ i j : Nat, i < n → j < n → G n T i j ≠ -1) ∧ Tab W' mb 36 (J n T n 0)) ∨ (e = .returned (.bool false) ∧ ∃ i j : Nat, i < n ∧ j < n ∧ G n T i j = -1)) : e = .returned (.bool false) := by
  rcases h with ⟨_, h1, _⟩ | ⟨h, _⟩
  · exact absurd h1 hf
  · exact h
theorem Making.like1 {W W' : World} {jm n : Nat} {F : Nat → Bool} {bot top : Int} {J J' M : Int → Int → Int} {k k' l : Nat} (h : Making W jm n F bot top J M k l) (hl : Like jm W W') (ht : Tab W' jm k' J') : Making W' jm n F bot top J' M k' l :=
  ⟨ht, h.2.1.at_block (hl.2 _ (by have := blk_lt h.2.2.1; omega) (by omega)), hl.blk h.2.2.1 (by omega), hl.blk h.2.2.2 (by omega)⟩
theorem Making.like2 {W W' : World} {jm n : Nat} {F : Nat → Bool} {bot top : Int} {J M M' : Int → Int → Int} {k l l' : Nat} (h : Making W jm n F bot top J M k l) (hl : Like (jm + 1) W W') (ht : Tab W' (jm + 1) l' M') : Making W' jm n F bot top J M' k l' :=
  ⟨h.1.at_block (hl.2 _ (by have := blk_lt h.2.2.1; omega) (by omega)), ht, hl.blk h.2.2.1 (by omega), hl.blk h.2.2.2 (by omega)⟩
theorem Making.broken {W W' : World} {jm n b : Nat} {F : Nat → Bool} {bot top : Int} {J M : Int → Int → Int} {k l : Nat} (h : Making W jm n F bot top J M k l) (hl : Like b W W') (hb : b < jm + 1 + 1) : Broken W' jm n F :=
  ⟨(blk_cell (hl.blk h.2.2.2 (by omega)) 0).trans rfl, (blk_cell (hl.blk h.2.2.1 (by omega)) 37).trans rfl, (blk_cell (hl.blk h.2.2.1 (by omega)) 38).trans rfl⟩

theorem fillJ {w W : World} {n : Nat} {F : Nat → Bool} {bot top : Int} {M : Int → Int → Int} {l : Nat} (hn : n ≤ 6) (hM : Making W w.heap.size n F bot top (fun _ _ => 0) M 0 l) (hB : Below w.heap.size w W) :
    Calls Try.prog 61 #[P (w.heap.size + 1 + 1), .map (some w.heap.size), .func (Fn.func 21) #[P (w.heap.size + 1 + 1)] #[]] W fun e w' => Below w.heap.size w w' ∧ Like w.heap.size W w' ∧ ((e = .returned (.bool true) ∧ (∀ i j : Nat, i < n → j < n → G n (lt n F) i j ≠ -1) ∧ Tab w' w.heap.size 36 (J n (lt n F) n 0)) ∨ (e = .returned (.bool false) ∧ ∃ i j : Nat, i < n ∧ j < n ∧ G n (lt n F) i j = -1)) :=
  fill_calls w.heap.size w 21 #[P (w.heap.size + 1 + 1)] #[] (fun _ _ => enters_ Try.func21 (by kernel_rfl) rfl _ _) hM.2.2.1 hn w.heap.size (by omega) (lt n F) hB (by have := blk_lt hM.2.2.1; omega) (Nat.le_refl _)
    (fun W' hL y x => Flows_calls (hL.blk hM.2.2.1 (by omega)) hn y x) hM.1
theorem fillM {w W : World} {n : Nat} {F : Nat → Bool} {bot top : Int} {K : Int → Int → Int} {k : Nat} (hn : n ≤ 6) (hM : Making W w.heap.size n F bot top K (fun _ _ => 0) k 0) (hB : Below w.heap.size w W) :
    Calls Try.prog 61 #[P (w.heap.size + 1 + 1), .map (some (w.heap.size + 1)), .func (Fn.func 59) #[] #[.pointer (some ⟨w.heap.size + 1 + 1 + 1, 0, none⟩)]] W fun e w' => Below w.heap.size w w' ∧ Like (w.heap.size + 1) W w' ∧ ((e = .returned (.bool true) ∧ (∀ i j : Nat, i < n → j < n → G n (gt n F) i j ≠ -1) ∧ Tab w' (w.heap.size + 1) 36 (J n (gt n F) n 0)) ∨ (e = .returned (.bool false) ∧ ∃ i j : Nat, i < n ∧ j < n ∧ G n (gt n F) i j = -1)) :=
  fill_calls w.heap.size w 59 #[] #[.pointer (some ⟨w.heap.size + 1 + 1 + 1, 0, none⟩)] (fun _ _ => enters_ Try.func59 (by kernel_rfl) rfl _ _) hM.2.2.1 hn (w.heap.size + 1) (by omega) (gt n F) hB (by have := blk_lt hM.2.2.1; omega) (Nat.le_succ _)
    (fun W' hL y x => New1_calls (w.heap.size + 1 + 1 + 1) (hL.blk hM.2.2.1 (by omega)) (hL.blk hM.2.2.2 (by omega)) hn y x) hM.2.1
section
variable {w W : World} {n : Nat} {F : Nat → Bool} {bot top : Int} {K M : Int → Int → Int} {k l : Nat}
theorem fillJ_full (hn : n ≤ 6) (hM : Making W w.heap.size n F bot top (fun _ _ => 0) M 0 l) (hB : Below w.heap.size w W) (hf : full n (lt n F)) :
    Calls Try.prog 61 #[P (w.heap.size + 1 + 1), .map (some w.heap.size), .func (Fn.func 21) #[P (w.heap.size + 1 + 1)] #[]] W fun e w' => e = .returned (.bool true) ∧ Making w' w.heap.size n F bot top (jT n F) M 36 l ∧ Below w.heap.size w w' := by
  refine (fillJ hn hM hB).mono ?_
  rintro e w' ⟨hb, hl, h⟩
  obtain ⟨rfl, ht⟩ := fills_full hf h
  exact ⟨rfl, hM.like1 hl ht, hb⟩
theorem fillJ_broken (hn : n ≤ 6) (hM : Making W w.heap.size n F bot top (fun _ _ => 0) M 0 l) (hB : Below w.heap.size w W) (hf : ¬ full n (lt n F)) :
    Calls Try.prog 61 #[P (w.heap.size + 1 + 1), .map (some w.heap.size), .func (Fn.func 21) #[P (w.heap.size + 1 + 1)] #[]] W fun e w' => e = .returned (.bool false) ∧ Broken w' w.heap.size n F ∧ Below w.heap.size w w' := by
  refine (fillJ hn hM hB).mono ?_
  rintro e w' ⟨hb, hl, h⟩
  exact ⟨fills_broken hf h, hM.broken hl (by omega), hb⟩
theorem fillM_full (hn : n ≤ 6) (hM : Making W w.heap.size n F bot top K (fun _ _ => 0) k 0) (hB : Below w.heap.size w W) (hf : full n (gt n F)) :
    Calls Try.prog 61 #[P (w.heap.size + 1 + 1), .map (some (w.heap.size + 1)), .func (Fn.func 59) #[] #[.pointer (some ⟨w.heap.size + 1 + 1 + 1, 0, none⟩)]] W fun e w' => e = .returned (.bool true) ∧ Making w' w.heap.size n F bot top K (mT n F) k 36 ∧ Below w.heap.size w w' := by
  refine (fillM hn hM hB).mono ?_
  rintro e w' ⟨hb, hl, h⟩
  obtain ⟨rfl, ht⟩ := fills_full hf h
  exact ⟨rfl, hM.like2 hl ht, hb⟩
theorem fillM_broken (hn : n ≤ 6) (hM : Making W w.heap.size n F bot top K (fun _ _ => 0) k 0) (hB : Below w.heap.size w W) (hf : ¬ full n (gt n F)) :
    Calls Try.prog 61 #[P (w.heap.size + 1 + 1), .map (some (w.heap.size + 1)), .func (Fn.func 59) #[] #[.pointer (some ⟨w.heap.size + 1 + 1 + 1, 0, none⟩)]] W fun e w' => e = .returned (.bool false) ∧ Broken w' w.heap.size n F ∧ Below w.heap.size w w' := by
  refine (fillM hn hM hB).mono ?_
  rintro e w' ⟨hb, hl, h⟩
  exact ⟨fills_broken hf h, hM.broken hl (by omega), hb⟩
end

theorem least_range {n : Nat} {T : Int → Int → Bool} (hf : full n T) (hn : 0 < n) : ∀ a : Nat, a ≤ n → 0 ≤ least (J n T n 0) a ∧ least (J n T n 0) a < n
  | 0, _ => ⟨Int.le_refl 0, by unfold least; omega⟩
  | a + 1, h => by
    obtain ⟨h0, h1⟩ := least_range hf hn a (by omega)
    have e : least (J n T n 0) (a + 1) = G n T (least (J n T n 0) a) a := by
      show J n T n 0 (least (J n T n 0) a) a = _
      unfold J
      rw [if_pos ⟨h0, by omega, by omega, .inl h1⟩]
    rw [e]
    obtain ⟨m, hm⟩ := Int.eq_ofNat_of_zero_le h0
    rw [hm] at h1 ⊢
    exact G_range (hf m a (by omega) (by omega))

set_option maxHeartbeats 4000000 in
set_option maxRecDepth 8000 in
theorem New_calls' {w : World} {A : Option Addr} {c n : Nat} (f : List (List Bool)) (hn : Aside0 (f.length = n)) (hR : Kd.C (Kd.slice 4 Kd.bool) w A n f) :
    Calls Try.prog 17 #[.slice A n c] w fun e w' => NewTells f e w' ∧ Below w.heap.size w w' := by
  have hmm := @run_makeMap Try.prog
  have hmf : ∀ (fn : Fn) (first cap : Array Value) (w : World), (Instr.makeFunc fn first cap).run Try.prog w = .ok (.func fn first cap) w := fun _ _ _ _ => rfl
  have HR := Aside0.mk hR
  clear hR
  by_cases h0 : (n : Int) = 0
  · go_enter Try.func17, Try.ntmps17
    go_wp2_with fail
    exact bodyPost_ret (v := .tuple #[.pointer none, .int .i64 1]) (by simp [results, Try.results17, go_sem]) rfl ⟨.inl ⟨not_sq0 (by rw [hn.out]; exact h0), rfl⟩, Below.refl _ _⟩
  have hz : ((n : Int) == 0) = false := by simpa using h0
  by_cases h6 : (6 : Int) < n
  · go_enter Try.func17, Try.ntmps17
    go_wp2_with fail
    exact bodyPost_ret (v := .tuple #[.pointer none, .int .i64 1]) (by simp [results, Try.results17, go_sem]) rfl ⟨.inl ⟨not_sq6 (by rw [hn.out]; exact h6), rfl⟩, Below.refl _ _⟩
  have HM := Aside0.mk (Making.start w n (flR f 0) (fun q _ => by rw [flR_zero]))
  have HB := Aside0.mk (start_below w (.map #[] 0) (.map #[] 0) (.cells (latC n (flR f 0) w.heap.size (w.heap.size + 1) 0 0) 79) (.cells #[P (w.heap.size + 1 + 1)] 25))
  have hlit : latC n (flR f 0) w.heap.size (w.heap.size + 1) 0 0 = latC n (fun _ => false) w.heap.size (w.heap.size + 1) 0 0 := by rw [flR_zero]
  rw [hlit] at HM HB
  clear hlit
  have hlit := Aside0.mk (show latC n (fun _ => false) w.heap.size (w.heap.size + 1) 0 0 = #[.int .i64 n, .bool false, .bool false, .bool false, .bool false, .bool false, .bool false, .bool false, .bool false, .bool false, .bool false, .bool false, .bool false, .bool false, .bool false, .bool false, .bool false, .bool false, .bool false, .bool false, .bool false, .bool false, .bool false, .bool false, .bool false, .bool false, .bool false, .bool false, .bool false, .bool false, .bool false, .bool false, .bool false, .bool false, .bool false, .bool false, .bool false, .map (some w.heap.size), .map (some (w.heap.size + 1)), .int .i64 0, .int .i64 0] from rfl)
  rw [hlit.out] at HM HB
  clear hlit
  go_enter Try.func17, Try.ntmps17
  go_wp2_with fail
  generalize ((((w.alloc (Obj.map #[] 0)).alloc (Obj.map #[] 0)).alloc _).alloc (Obj.cells #[Value.pointer (some { block := w.heap.size + 1 + 1, off := 0 })] 25)) = W0 at *
  go_loopw [25] (fun x wr => ∃ i : Nat, x = .int .i64 (i : Int) ∧ i ≤ n ∧ Aside0 (∀ j, j < i → (rowOf f j).length = n) ∧ Aside0 (Making wr w.heap.size n (flR f i) 0 0 (fun _ _ => 0) (fun _ _ => 0) 0 0) ∧ Aside0 (Below w.heap.size w wr)) (fun x _ => n - (intOf x).toNat)
  case atStart => exact ⟨0, rfl, Nat.zero_le _, ⟨fun j h => absurd h (by omega)⟩, HM, HB⟩
  case round =>
    clear HM HB
    obtain ⟨i, rfl, hi, HA, HM, HB⟩ := hrel
    by_cases hx : (i : Int) < n
    · obtain ⟨ad, A0, c0, rfl, hcell, hlc, hrow⟩ := at_row HR.out i (by omega)
      replace hcell := (HB.out.cell (World.block_lt_of_cell? w _ hcell)).trans hcell
      have hrow := Aside0.mk (Kd.C_below hrow HB.out)
      by_cases hl : (rowOf f i).length = n
      · have HL := Aside0.mk hl
        obtain ⟨ad0, rfl, _⟩ := Kd.at_bool hrow.out 0 (by omega) (by omega)
        have hcp := fun ty => copy_row (c := c0) HM.out.2.2.1 i (by omega) (by omega) hrow.out ty
        have HM2 := Aside0.mk (Making.row (bot' := 0) (top' := 0) HM.out (flR_row i n (by omega) HL.out))
        have HB2 := Aside0.mk (below_setRow HB.out (show w.heap.size ≤ w.heap.size + 1 + 1 by omega) (latC n (fun q => if i * 6 ≤ q ∧ q < i * 6 + (rowOf f i).length then (rowOf f i).getD (q - i * 6) false else flR f i q) w.heap.size (w.heap.size + 1) 0 0))
        have l0 : wr.cell? ⟨w.heap.size + 1 + 1 + 1, 0, none⟩ = some (P (w.heap.size + 1 + 1)) := (blk_cell HM.out.2.2.2 0).trans rfl
        generalize latC n (fun q => if i * 6 ≤ q ∧ q < i * 6 + (rowOf f i).length then (rowOf f i).getD (q - i * 6) false else flR f i q) w.heap.size (w.heap.size + 1) 0 0 = L2 at *
        rw [hl] at hcell
        simp only [HL.out] at hcp
        clear hl hlc hrow
        go_wp2_with fail
        exact ⟨⟨i + 1, rfl, by omega, ⟨step_all HA.out HL.out⟩, HM2, HB2⟩, by simp [intOf]; omega⟩
      · have HL := Aside0.mk hl
        have hl3 : (((rowOf f i).length : Int) == (n : Int)) = false := by
          rw [beq_eq_false_iff_ne]
          omega
        go_wp2_with fail
        exact bodyPost_ret (v := .tuple #[.pointer none, .int .i64 1]) (by simp [results, Try.results17, go_sem]) rfl ⟨.inl ⟨fun q => HL.out ((q.2.2 i (by rw [hn.out]; omega)).trans hn.out), rfl⟩, HB.out⟩
    · obtain rfl : n = i := by omega
      clear hi
      have hsq : Aside0 (sq f) := ⟨⟨by rw [hn.out]; omega, by rw [hn.out]; omega, by rw [hn.out]; exact HA.out⟩⟩
      clear HA
      have l0 : wr.cell? ⟨w.heap.size + 1 + 1 + 1, 0, none⟩ = some (P (w.heap.size + 1 + 1)) := (blk_cell HM.out.2.2.2 0).trans rfl
      go_upto_region 12 with fail
      go_cut [8] from 9 to 101 (fun v wx => v = .func (Fn.func 59) #[] #[.pointer (some ⟨w.heap.size + 1 + 1 + 1, 0, none⟩)] ∧ wx = wr)
      case first =>
        go_wp2_with fail
        go_meet
        case rel => exact ⟨rfl, rfl⟩
      case rest =>
      obtain ⟨rfl, rfl⟩ := hcut
      go_wp2_with fail
      refine (order_calls HM.out.2.2.1 (by omega)).mono ?_
      rintro e w1 ⟨⟨r, rfl, hr⟩, rfl⟩
      replace hr := Aside0.mk hr
      cases r
      · go_wp2_with fail
        exact bodyPost_ret (v := .tuple #[.pointer none, .int .i64 4]) (by simp [results, Try.results17, go_sem]) rfl ⟨.inr (.inl ⟨hsq.out, by rw [hn.out]; exact fun q => absurd (hr.out.2 q) (by simp), rfl⟩), HB.out⟩
      · go_upto_region 15 with fail
        have hn6 : n ≤ 6 := by omega
        have HMd := Aside0.mk (HM.out.later (below_drew (Below.refl _ _)))
        have HBd := Aside0.mk (below_drew HB.out)
        by_cases hj : full n (lt n (flR f n))
        · have HJ := Aside0.mk hj
          clear hj
          by_cases hm : full n (gt n (flR f n))
          · have HG := Aside0.mk hm
            clear hm
            go_cut [48] from 49 to 67 (fun b wx => b = .bool false ∧ Aside0 (Making wx w.heap.size n (flR f n) 0 0 (jT n (flR f n)) (mT n (flR f n)) 36 36) ∧ Aside0 (Below w.heap.size w wx))
            case first =>
              go_region_held3 (fun w' => w'.cell? ⟨w.heap.size + 1 + 1 + 1, 0, none⟩ = some (P (w.heap.size + 1 + 1)) ∧ w'.cell? ⟨w.heap.size + 1 + 1, 37, none⟩ = some (.map (some w.heap.size)) ∧ w'.cell? ⟨w.heap.size + 1 + 1, 38, none⟩ = some (.map (some (w.heap.size + 1))))
                (first | exact hm2.out.cells | exact hm1.out.cells | exact HMd.out.cells)
                (first | (go_at_call 61; refine (fillM_full hn6 hm1.out hb1.out HG.out).mono ?_; rintro e w' ⟨rfl, hm2, hb2⟩; replace hm2 := Aside0.mk hm2; replace hb2 := Aside0.mk hb2) | (go_at_call 61; refine (fillJ_full hn6 HMd.out HBd.out HJ.out).mono ?_; rintro e w' ⟨rfl, hm1, hb1⟩; replace hm1 := Aside0.mk hm1; replace hb1 := Aside0.mk hb1))
              all_goals (go_wp2_with fail; go_meet)
              case rel => exact ⟨rfl, hm2, hb2⟩
            case rest =>
            obtain ⟨rfl, HM, HB⟩ := hcut
            clear HMd HBd l0
            go_wp2_with fail
            go_loopw [69] (fun x wr => ∃ a : Nat, x = .int .i64 (a : Int) ∧ a ≤ n ∧ Aside0 (Making wr w.heap.size n (flR f n) (least (mT n (flR f n)) a) (least (jT n (flR f n)) a) (jT n (flR f n)) (mT n (flR f n)) 36 36) ∧ Aside0 (Below w.heap.size w wr)) (fun x _ => n - (intOf x).toNat)
            case atStart => exact ⟨0, rfl, Nat.zero_le _, HM, HB⟩
            case round =>
              clear HM HB
              obtain ⟨a, rfl, ha, HM, HB⟩ := hrel
              by_cases hy : (a : Int) < n
              · obtain ⟨c1, c2, c3⟩ := HM.out.cells
                have HMd := Aside0.mk (HM.out.later (below_drew (Below.refl _ _)))
                have c4 : wr.cell? ⟨w.heap.size + 1 + 1, 39, none⟩ = some (.int .i64 (least (mT n (flR f n)) a)) := (blk_cell HM.out.2.2.1 39).trans rfl
                have fz : wr.frozen? ⟨w.heap.size + 1 + 1, 39, none⟩ = false := blk_frozen HM.out.2.2.1 39
                have lk := HMd.out.2.1.look (a := least (mT n (flR f n)) a) (c := (a : Int)) (okI_small (by have h : 0 ≤ least (mT n (flR f n)) a ∧ least (mT n (flR f n)) a < n := least_range HG.out (by omega) a ha; omega) (by have h : 0 ≤ least (mT n (flR f n)) a ∧ least (mT n (flR f n)) a < n := least_range HG.out (by omega) a ha; omega)) (okI_small (by omega) (by omega))
                go_upto_region 20 with fail
                go_cut [] from 72 to 100 (fun wx => wx = (wr.setCell ⟨w.heap.size + 1 + 1, 39, none⟩ (.int .i64 (mT n (flR f n) (least (mT n (flR f n)) a) a))).drew)
                case first =>
                  go_region
                  go_wp2_with fail
                  go_meet
                  case rel => rfl
                case rest =>
                have HM2 := Aside0.mk ((HM.out.setBot (mT n (flR f n) (least (mT n (flR f n)) a) a)).later (below_drew (Below.refl _ _)))
                have HB2 := Aside0.mk (below_drew (below_set (j := 39) (v := .int .i64 (mT n (flR f n) (least (mT n (flR f n)) a) a)) HB.out (show w.heap.size ≤ w.heap.size + 1 + 1 by omega)))
                rw [← hcut] at HM2 HB2
                clear hcut HM HB HMd c1 c2 c3 c4 fz lk
                obtain ⟨c1, c2, c3⟩ := HM2.out.cells
                have HMd := Aside0.mk (HM2.out.later (below_drew (Below.refl _ _)))
                have c4 : wc.cell? ⟨w.heap.size + 1 + 1, 40, none⟩ = some (.int .i64 (least (jT n (flR f n)) a)) := (blk_cell HM2.out.2.2.1 40).trans rfl
                have fz : wc.frozen? ⟨w.heap.size + 1 + 1, 40, none⟩ = false := blk_frozen HM2.out.2.2.1 40
                have lk := HMd.out.1.look (a := least (jT n (flR f n)) a) (c := (a : Int)) (okI_small (by have h : 0 ≤ least (jT n (flR f n)) a ∧ least (jT n (flR f n)) a < n := least_range HJ.out (by omega) a ha; omega) (by have h : 0 ≤ least (jT n (flR f n)) a ∧ least (jT n (flR f n)) a < n := least_range HJ.out (by omega) a ha; omega)) (okI_small (by omega) (by omega))
                go_upto_region 21 with fail
                go_region
                have HM3 := Aside0.mk ((HM2.out.setTop (jT n (flR f n) (least (jT n (flR f n)) a) a)).later (below_drew (Below.refl _ _)))
                have HB3 := Aside0.mk (below_drew (below_set (j := 40) (v := .int .i64 (jT n (flR f n) (least (jT n (flR f n)) a) a)) HB2.out (show w.heap.size ≤ w.heap.size + 1 + 1 by omega)))
                go_wp2_with fail
                exact ⟨⟨a + 1, rfl, by omega, HM3, HB3⟩, by simp [intOf]; omega⟩
              · obtain rfl : n = a := by omega
                have l0 : wr.cell? ⟨w.heap.size + 1 + 1 + 1, 0, none⟩ = some (P (w.heap.size + 1 + 1)) := HM.out.cells.1
                go_wp2_with fail
                exact bodyPost_ret (v := .tuple #[P (w.heap.size + 1 + 1), .int .i64 0]) (by simp [results, Try.results17, go_sem]) rfl ⟨.inr (.inr (.inr ⟨hsq.out, by rw [hn.out]; exact ⟨hr.out.1 trivial, HJ.out, HG.out, _, rfl, _, _, HM.out.2.2.1, HM.out.1, HM.out.2.1⟩⟩)), HB.out⟩
          · have HG := Aside0.mk hm
            clear hm
            go_cut [48] from 49 to 67 (fun b wx => b = .bool true ∧ Aside0 (Below w.heap.size w wx))
            case first =>
              go_region_held3 (fun w' => w'.cell? ⟨w.heap.size + 1 + 1 + 1, 0, none⟩ = some (P (w.heap.size + 1 + 1)) ∧ w'.cell? ⟨w.heap.size + 1 + 1, 37, none⟩ = some (.map (some w.heap.size)) ∧ w'.cell? ⟨w.heap.size + 1 + 1, 38, none⟩ = some (.map (some (w.heap.size + 1))))
                (first | exact hm2.out | exact hm1.out.cells | exact HMd.out.cells)
                (first | (go_at_call 61; refine (fillM_broken hn6 hm1.out hb1.out HG.out).mono ?_; rintro e w' ⟨rfl, hm2, hb2⟩; replace hm2 := Aside0.mk hm2; replace hb2 := Aside0.mk hb2) | (go_at_call 61; refine (fillJ_full hn6 HMd.out HBd.out HJ.out).mono ?_; rintro e w' ⟨rfl, hm1, hb1⟩; replace hm1 := Aside0.mk hm1; replace hb1 := Aside0.mk hb1))
              all_goals (go_wp2_with fail; go_meet)
              case rel => exact ⟨rfl, hb2⟩
            case rest =>
            obtain ⟨rfl, HB⟩ := hcut
            clear HMd HBd l0
            go_wp2_with fail
            exact bodyPost_ret (v := .tuple #[.pointer none, .int .i64 6]) (by simp [results, Try.results17, go_sem]) rfl ⟨.inr (.inr (.inl ⟨hsq.out, by rw [hn.out]; exact ⟨hr.out.1 trivial, fun q => HG.out q.2, rfl⟩⟩)), HB.out⟩
        · have HJ := Aside0.mk hj
          clear hj
          go_cut [48] from 49 to 67 (fun b wx => b = .bool true ∧ Aside0 (Below w.heap.size w wx))
          case first =>
            refine wp_region_noPanic ?_
            refine wp_region_held_drew (S := fun w' => w'.cell? ⟨w.heap.size + 1 + 1 + 1, 0, none⟩ = some (P (w.heap.size + 1 + 1)) ∧ w'.cell? ⟨w.heap.size + 1 + 1, 37, none⟩ = some (.map (some w.heap.size)) ∧ w'.cell? ⟨w.heap.size + 1 + 1, 38, none⟩ = some (.map (some (w.heap.size + 1)))) (by kernel_rfl) HMd.out.cells (fun hHeld => ?_)
            refine wpAnyH_take (i := 0) (v := P (w.heap.size + 1 + 1)) rfl (by kernel_rfl) (by kernel_rfl) (by kernel_rfl) (fun _ _ _ h => h) (Or.inl ⟨by rfl, by intro w hSw; (try dsimp only at hSw); go_simp⟩) (by assumption) ?_
            simp only [Act.put, List.getElem_toArray, List.getElem_cons_zero, List.getElem_cons_succ, List.setIfInBounds_toArray, List.set_cons_zero, List.set_cons_succ]
            refine wpAnyH_take (i := 1) (v := P (w.heap.size + 1 + 1)) rfl (by kernel_rfl) (by kernel_rfl) (by kernel_rfl) (fun _ _ _ h => h) (Or.inl ⟨by rfl, by intro w hSw; (try dsimp only at hSw); go_simp⟩) (by assumption) ?_
            simp only [Act.put, List.getElem_toArray, List.getElem_cons_zero, List.getElem_cons_succ, List.setIfInBounds_toArray, List.set_cons_zero, List.set_cons_succ]
            refine wpAnyH_take (i := 2) (v := P (w.heap.size + 1 + 1)) rfl (by kernel_rfl) (by kernel_rfl) (by kernel_rfl) (fun _ _ _ h => h) (Or.inl ⟨by rfl, by intro w hSw; (try dsimp only at hSw); go_simp⟩) (by assumption) ?_
            simp only [Act.put, List.getElem_toArray, List.getElem_cons_zero, List.getElem_cons_succ, List.setIfInBounds_toArray, List.set_cons_zero, List.set_cons_succ]
            refine wpAnyH_take (i := 3) (v := .pointer (some ⟨w.heap.size + 1 + 1, 37, none⟩)) rfl (by kernel_rfl) (by kernel_rfl) (by kernel_rfl) (fun _ _ _ h => h) (Or.inl ⟨by rfl, by intro w hSw; (try dsimp only at hSw); go_simp⟩) (by assumption) ?_
            simp only [Act.put, List.getElem_toArray, List.getElem_cons_zero, List.getElem_cons_succ, List.setIfInBounds_toArray, List.set_cons_zero, List.set_cons_succ]
            refine wpAnyH_take (i := 4) (v := .map (some w.heap.size)) rfl (by kernel_rfl) (by kernel_rfl) (by kernel_rfl) (fun _ _ _ h => h) (Or.inl ⟨by rfl, by intro w hSw; (try dsimp only at hSw); go_simp⟩) (by assumption) ?_
            simp only [Act.put, List.getElem_toArray, List.getElem_cons_zero, List.getElem_cons_succ, List.setIfInBounds_toArray, List.set_cons_zero, List.set_cons_succ]
            refine wpAnyH_take (i := 5) (v := P (w.heap.size + 1 + 1)) rfl (by kernel_rfl) (by kernel_rfl) (by kernel_rfl) (fun _ _ _ h => h) (Or.inl ⟨by rfl, by intro w hSw; (try dsimp only at hSw); go_simp⟩) (by assumption) ?_
            simp only [Act.put, List.getElem_toArray, List.getElem_cons_zero, List.getElem_cons_succ, List.setIfInBounds_toArray, List.set_cons_zero, List.set_cons_succ]
            refine wpAnyH_take (i := 6) (v := .func (Fn.func 21) #[P (w.heap.size + 1 + 1)] #[]) rfl (by kernel_rfl) (by kernel_rfl) (by kernel_rfl) (fun _ _ _ h => h) (Or.inl ⟨by rfl, by intro w hSw; (try dsimp only at hSw); go_simp⟩) (by assumption) ?_
            simp only [Act.put, List.getElem_toArray, List.getElem_cons_zero, List.getElem_cons_succ, List.setIfInBounds_toArray, List.set_cons_zero, List.set_cons_succ]
            refine wpAnyH_ready (rs := [7]) (by kernel_rfl) (by simp) ?_
            refine AllReadyH.cons rfl (fun K hK => ?_) AllReadyH.nil
            simp only [List.getElem_toArray, List.getElem_cons_zero, List.getElem_cons_succ]
            go_simp
            go_at_call 61
            refine (fillJ_broken hn6 HMd.out HBd.out HJ.out).mono ?_
            rintro e w' ⟨rfl, hm1, hb1⟩
            replace hm1 := Aside0.mk hm1
            replace hb1 := Aside0.mk hb1
            go_wp2_with fail
            refine hK.out _ _ hm1.out (fun hHeld2 => ?_)
            clear hK K
            try simp only [Act.put, List.getElem_toArray, List.getElem_cons_zero, List.getElem_cons_succ, List.setIfInBounds_toArray, List.set_cons_zero, List.set_cons_succ]
            refine wpAnyH_take (i := 8) (v := .bool true) rfl (by kernel_rfl) (by kernel_rfl) (by kernel_rfl) (fun _ _ _ h => h) (Or.inl ⟨by rfl, by intro w hSw; (try dsimp only at hSw); go_simp⟩) (by assumption) ?_
            simp only [Act.put, List.getElem_toArray, List.getElem_cons_zero, List.getElem_cons_succ, List.setIfInBounds_toArray, List.set_cons_zero, List.set_cons_succ]
            refine wpAnyH_take (i := 9) (v := .bool true) rfl (by kernel_rfl) (by kernel_rfl) (by kernel_rfl) (fun _ _ _ h => h) (Or.inl ⟨by rfl, by intro w hSw; (try dsimp only at hSw); go_simp⟩) (by assumption) ?_
            simp only [Act.put, List.getElem_toArray, List.getElem_cons_zero, List.getElem_cons_succ, List.setIfInBounds_toArray, List.set_cons_zero, List.set_cons_succ]
            refine wpAnyH_take (i := 10) (v := undef) rfl (by kernel_rfl) (by kernel_rfl) (by kernel_rfl) (fun _ _ _ h => h) (Or.inr ⟨by rfl, rfl⟩) (by assumption) ?_
            simp only [Act.put, List.getElem_toArray, List.getElem_cons_zero, List.getElem_cons_succ, List.setIfInBounds_toArray, List.set_cons_zero, List.set_cons_succ]
            refine wpAnyH_take (i := 11) (v := undef) rfl (by kernel_rfl) (by kernel_rfl) (by kernel_rfl) (fun _ _ _ h => h) (Or.inr ⟨by rfl, rfl⟩) (by assumption) ?_
            simp only [Act.put, List.getElem_toArray, List.getElem_cons_zero, List.getElem_cons_succ, List.setIfInBounds_toArray, List.set_cons_zero, List.set_cons_succ]
            refine wpAnyH_take (i := 12) (v := undef) rfl (by kernel_rfl) (by kernel_rfl) (by kernel_rfl) (fun _ _ _ h => h) (Or.inr ⟨by rfl, rfl⟩) (by assumption) ?_
            simp only [Act.put, List.getElem_toArray, List.getElem_cons_zero, List.getElem_cons_succ, List.setIfInBounds_toArray, List.set_cons_zero, List.set_cons_succ]
            refine wpAnyH_take (i := 13) (v := undef) rfl (by kernel_rfl) (by kernel_rfl) (by kernel_rfl) (fun _ _ _ h => h) (Or.inr ⟨by rfl, rfl⟩) (by assumption) ?_
            simp only [Act.put, List.getElem_toArray, List.getElem_cons_zero, List.getElem_cons_succ, List.setIfInBounds_toArray, List.set_cons_zero, List.set_cons_succ]
            refine wpAnyH_take (i := 14) (v := undef) rfl (by kernel_rfl) (by kernel_rfl) (by kernel_rfl) (fun _ _ _ h => h) (Or.inr ⟨by rfl, rfl⟩) (by assumption) ?_
            simp only [Act.put, List.getElem_toArray, List.getElem_cons_zero, List.getElem_cons_succ, List.setIfInBounds_toArray, List.set_cons_zero, List.set_cons_succ]
            refine wpAnyH_take (i := 15) (v := undef) rfl (by kernel_rfl) (by kernel_rfl) (by kernel_rfl) (fun _ _ _ h => h) (Or.inr ⟨by rfl, rfl⟩) (by assumption) ?_
            simp only [Act.put, List.getElem_toArray, List.getElem_cons_zero, List.getElem_cons_succ, List.setIfInBounds_toArray, List.set_cons_zero, List.set_cons_succ]
            refine wpAnyH_take (i := 16) (v := undef) rfl (by kernel_rfl) (by kernel_rfl) (by kernel_rfl) (fun _ _ _ h => h) (Or.inr ⟨by rfl, rfl⟩) (by assumption) ?_
            simp only [Act.put, List.getElem_toArray, List.getElem_cons_zero, List.getElem_cons_succ, List.setIfInBounds_toArray, List.set_cons_zero, List.set_cons_succ]
            refine wpAnyH_take (i := 17) (v := undef) rfl (by kernel_rfl) (by kernel_rfl) (by kernel_rfl) (fun _ _ _ h => h) (Or.inr ⟨by rfl, rfl⟩) (by assumption) ?_
            simp only [Act.put, List.getElem_toArray, List.getElem_cons_zero, List.getElem_cons_succ, List.setIfInBounds_toArray, List.set_cons_zero, List.set_cons_succ]
            refine wpAnyH_take (i := 18) (v := .bool true) rfl (by kernel_rfl) (by kernel_rfl) (by kernel_rfl) (fun _ _ _ h => h) (Or.inl ⟨by rfl, by intro w hSw; (try dsimp only at hSw); go_simp⟩) (by assumption) ?_
            simp only [Act.put, List.getElem_toArray, List.getElem_cons_zero, List.getElem_cons_succ, List.setIfInBounds_toArray, List.set_cons_zero, List.set_cons_succ]
            refine wpAnyH_take (i := 19) (v := .bool true) rfl (by kernel_rfl) (by kernel_rfl) (by kernel_rfl) (fun _ _ _ h => h) (Or.inl ⟨by rfl, by intro w hSw; (try dsimp only at hSw); go_simp⟩) (by assumption) ?_
            simp only [Act.put, List.getElem_toArray, List.getElem_cons_zero, List.getElem_cons_succ, List.setIfInBounds_toArray, List.set_cons_zero, List.set_cons_succ]
            refine wpAnyH_done (by kernel_rfl) (NoPanic.normal ?_) _
            go_wp2_with fail
            go_meet
            case rel => exact ⟨rfl, hb1⟩
          case rest =>
          obtain ⟨rfl, HB⟩ := hcut
          clear HMd HBd l0
          go_wp2_with fail
          exact bodyPost_ret (v := .tuple #[.pointer none, .int .i64 6]) (by simp [results, Try.results17, go_sem]) rfl ⟨.inr (.inr (.inl ⟨hsq.out, by rw [hn.out]; exact ⟨hr.out.1 trivial, fun q => HJ.out q.1, rfl⟩⟩)), HB.out⟩
theorem New_calls {w : World} {A : Option Addr} {c : Nat} (f : List (List Bool)) (hR : Kd.C (Kd.slice 4 Kd.bool) w A f.length f) :
    Calls Try.prog 17 #[.slice A f.length c] w fun e w' => NewTells f e w' ∧ Below w.heap.size w w' := New_calls' f ⟨rfl⟩ hR
end Go.Proofs.Yteopponjfkeagaa.Lat
