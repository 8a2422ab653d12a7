import Derived.Test.YteopponjfkeagaaProg
import Derived.Below
import Derived.Deep.Draws
import Derived.Deep.AppendLies
import Derived.Maps.AppendAt
import Derived.OwnWalk
import Derived.Laws.BytesArg
import Derived.Laws.MakeOwn
import Derived.Laws.OwnMore
import Derived.Deep.OwnRows
import Derived.Tactics
import Derived.Lib.ConvBytes
import Derived.Laws.Slices
import Derived.WalkKit
import Derived.KernelRfl
import Derived.RowKit3
import Derived.Deep.LoopGhost
import Derived.Deep.QuietTactic
import Derived.BigQuiet
import Derived.WideLaws
import Derived.Deep.DeepCutAuto
import Derived.Deep.CutBlock
import Derived.Deep.RegionHeld3
import Derived.Laws.Rows
import Derived.Lib.AppendStr
import Derived.ArgAppend
import Derived.Laws.IdiomCopy
import Derived.OrdersHeld
import Derived.Laws.BitsLemmas
import Derived.RowKit
import Derived.Outline
import Derived.StillTailTactics
import Derived.Test.YteopponjfkeagaaWWords
import Derived.Test.YteopponjfkeagaaWLast
import Derived.Test.YteopponjfkeagaaWTab
import Derived.Test.YteopponjfkeagaaWFour
import Derived.Test.YteopponjfkeagaaWQPut
import Derived.Test.YteopponjfkeagaaWApart
import Derived.Test.YteopponjfkeagaaWArr
import Derived.Test.YteopponjfkeagaaWZeros
import Derived.Test.YteopponjfkeagaaWFoot
import Derived.Test.YteopponjfkeagaaWKept
import Derived.Test.YteopponjfkeagaaWShare
import Derived.Test.YteopponjfkeagaaWN
import Derived.Test.YteopponjfkeagaaWFootNe
import Derived.Test.YteopponjfkeagaaWAt
import Derived.Test.YteopponjfkeagaaWEqStruct
import Derived.Test.YteopponjfkeagaaWRepsOne
import Derived.Test.YteopponjfkeagaaWInv
import Derived.Test.YteopponjfkeagaaWInvWords
import Derived.Test.YteopponjfkeagaaWGuard
import Derived.Test.YteopponjfkeagaaWNEv
import Derived.Test.YteopponjfkeagaaWMore
namespace Go.Proofs.Yteopponjfkeagaa.Lat
open Go.RowKit Go.Proofs.YteopponjfkeagaaW.PrintWords Go.Proofs.YteopponjfkeagaaW.PrintLast Go.Proofs.YteopponjfkeagaaW.PrintMore
set_option linter.unusedVariables false
set_option linter.unusedSimpArgs false

/-- the cells of a lattice: its size, which of six times six labels flow to which, its two maps, its bottom and its top -/
def latC (n : Nat) (F : Nat → Bool) (jm mm : Nat) (bot top : Int) : Array Value :=
  ((.int .i64 n) :: ((List.range 36).map (fun i => Value.bool (F i)) ++ [.map (some jm), .map (some mm), .int .i64 bot, .int .i64 top])).toArray
theorem latC_size (n : Nat) (F : Nat → Bool) (jm mm : Nat) (bot top : Int) : (latC n F jm mm bot top)[0]? = some (.int .i64 n) := rfl
theorem latC_flow (n : Nat) (F : Nat → Bool) (jm mm : Nat) (bot top : Int) (i : Nat) (h : i < 36) : (latC n F jm mm bot top)[1 + i]? = some (.bool (F i)) := by
  unfold latC
  rw [List.getElem?_toArray, Nat.add_comm, List.getElem?_cons_succ, List.getElem?_append_left (by simpa using h), List.getElem?_map, List.getElem?_range h]
  rfl
theorem latC_joins (n : Nat) (F : Nat → Bool) (jm mm : Nat) (bot top : Int) : (latC n F jm mm bot top)[37]? = some (.map (some jm)) := rfl
theorem latC_meets (n : Nat) (F : Nat → Bool) (jm mm : Nat) (bot top : Int) : (latC n F jm mm bot top)[38]? = some (.map (some mm)) := rfl
theorem latC_bottom (n : Nat) (F : Nat → Bool) (jm mm : Nat) (bot top : Int) : (latC n F jm mm bot top)[39]? = some (.int .i64 bot) := rfl
theorem latC_top (n : Nat) (F : Nat → Bool) (jm mm : Nat) (bot top : Int) : (latC n F jm mm bot top)[40]? = some (.int .i64 top) := rfl

abbrev P (g : Nat) : Value := .pointer (some ⟨g, 0, none⟩)
theorem Size_calls (g n : Nat) (F : Nat → Bool) (jm mm : Nat) (bot top : Int) (w : World) (hg : w.heap[g]? = some (.cells (latC n F jm mm bot top) 79 (0, 0))) :
    Calls Try.prog 23 #[P g] w fun e w' => e = .returned (.int .i64 n) ∧ Below w.heap.size w w' := by
  have c0 : w.cell? ⟨g, 0, none⟩ = some (.int .i64 n) := (blk_cell hg 0).trans rfl
  clear hg
  go_enter Try.func23, Try.ntmps23
  go_wp2
  go_ret
  exact ⟨rfl, by with_reducible repeat (first | exact Below.refl _ _ | apply pw_below_drewN)⟩
theorem Size_nil (w : World) :
    Calls Try.prog 23 #[.pointer none] w fun e w' => e = .returned (.int .i64 0) ∧ Below w.heap.size w w' := by
  go_enter Try.func23, Try.ntmps23
  go_wp2
  go_ret
  exact ⟨rfl, by with_reducible repeat (first | exact Below.refl _ _ | apply pw_below_drewN)⟩
/-- is there a label -/
def inN (n : Nat) (a : Int) : Bool := decide (0 ≤ a) && decide (a < n)
def Sized (v : Value) (n : Nat) (w : World) : Prop := ∀ W, Below w.heap.size w W → Calls Try.prog 23 #[v] W fun e w' => e = .returned (.int .i64 n) ∧ Below W.heap.size W w'
theorem Sized.later {v : Value} {n : Nat} {w w' : World} (h : Sized v n w) (hb : Below w.heap.size w w') : Sized v n w' := fun W hW => h W (below_step hb hW)
theorem sized_nil (w : World) : Sized (.pointer none) 0 w := fun W _ => Size_nil W
theorem sized_at {g n : Nat} {F : Nat → Bool} {jm mm : Nat} {bot top : Int} {w : World} (hg : w.heap[g]? = some (.cells (latC n F jm mm bot top) 79 (0, 0))) : Sized (P g) n w :=
  fun W hb => Size_calls g n F jm mm bot top W (blk_below hg hb)
theorem is_calls {v : Value} {n : Nat} {w : World} (hS : Sized v n w) (a : Int) :
    Calls Try.prog 67 #[v, .int .i64 a] w fun e w' => e = .returned (.bool (inN n a)) ∧ Below w.heap.size w w' := by
  by_cases ha : 0 ≤ a
  · go_enter Try.func67, Try.ntmps67
    go_wp2_with fail
    refine (hS _ (Below.refl _ _)).mono ?_
    rintro e w1 ⟨rfl, hb⟩
    go_wp2_with fail
    go_ret
    exact ⟨by simp [inN, ha, ← Int.not_le], hb⟩
  · go_enter Try.func67, Try.ntmps67
    go_wp2_with fail
    go_ret
    exact ⟨by unfold inN; rw [decide_eq_false (by omega)]; rfl, Below.refl _ _⟩
theorem Flows_none {v : Value} {n : Nat} {w : World} (hS : Sized v n w) (a b : Int) (h : inN n a = false ∨ inN n b = false) :
    Calls Try.prog 21 #[v, .int .i64 a, .int .i64 b] w fun e w' => e = .returned (.bool false) ∧ Below w.heap.size w w' := by
  cases ha : inN n a
  · go_enter Try.func21, Try.ntmps21
    go_wp2_with fail
    refine (is_calls hS a).mono ?_
    rw [ha]
    rintro e w1 ⟨rfl, hb⟩
    go_wp2_with fail
    go_ret
    exact ⟨rfl, hb⟩
  · have hn : inN n b = false := by
      rcases h with h | h
      · rw [ha] at h; exact absurd h (by decide)
      · exact h
    go_enter Try.func21, Try.ntmps21
    go_wp2_with fail
    refine (is_calls hS a).mono ?_
    rw [ha]
    rintro e w1 ⟨rfl, hb⟩
    go_wp2_with fail
    refine (is_calls (hS.later hb) b).mono ?_
    rw [hn]
    rintro e w2 ⟨rfl, hb2⟩
    go_wp2_with fail
    go_ret
    exact ⟨rfl, below_step hb hb2⟩
theorem inN_iff {n : Nat} {a : Int} : inN n a = true ↔ 0 ≤ a ∧ a < n := by unfold inN; simp
/-- what flows, of any two numbers -/
def flowsF (n : Nat) (F : Nat → Bool) (a b : Int) : Bool := inN n a && inN n b && F (a.toNat * 6 + b.toNat)
theorem Flows_calls {g n : Nat} {F : Nat → Bool} {jm mm : Nat} {bot top : Int} {w : World} (hg : w.heap[g]? = some (.cells (latC n F jm mm bot top) 79 (0, 0))) (hn : n ≤ 6) (a b : Int) :
    Calls Try.prog 21 #[P g, .int .i64 a, .int .i64 b] w fun e w' => e = .returned (.bool (flowsF n F a b)) ∧ Below w.heap.size w w' := by
  by_cases h : inN n a = true ∧ inN n b = true
  case neg =>
    have h' : inN n a = false ∨ inN n b = false := by
      cases ha : inN n a
      · exact .inl rfl
      · cases hb : inN n b
        · exact .inr rfl
        · exact absurd ⟨ha, hb⟩ h
    have e : flowsF n F a b = false := by unfold flowsF; rcases h' with h' | h' <;> simp [h']
    rw [e]
    exact Flows_none (sized_at hg) a b h'
  obtain ⟨ha, hb⟩ := h
  obtain ⟨a0, a1⟩ := inN_iff.1 ha
  obtain ⟨b0, b1⟩ := inN_iff.1 hb
  have HG := Aside0.mk hg
  have hS := sized_at hg
  have e : flowsF n F a b = F (a.toNat * 6 + b.toNat) := by unfold flowsF; rw [ha, hb]; rfl
  rw [e]
  clear hg e
  go_enter Try.func21, Try.ntmps21
  go_wp2_with fail
  refine (is_calls hS a).mono ?_
  rw [ha]
  rintro e w1 ⟨rfl, hb1⟩
  go_wp2_with fail
  refine (is_calls (hS.later hb1) b).mono ?_
  rw [hb]
  rintro e w2 ⟨rfl, hb2⟩
  obtain ⟨m, rfl⟩ := Int.eq_ofNat_of_zero_le a0
  obtain ⟨k, rfl⟩ := Int.eq_ofNat_of_zero_le b0
  have c : w2.cell? ⟨g, 1 + m * 6 + k, none⟩ = some (.bool (F (m * 6 + k))) := by
    rw [Nat.add_assoc]
    exact (blk_cell (blk_below HG.out (below_step hb1 hb2)) (1 + (m * 6 + k))).trans (latC_flow n F jm mm bot top (m * 6 + k) (by omega))
  have hB := Aside0.mk (below_step hb1 hb2)
  clear hb1 hb2 hS HG
  go_wp2_with fail
  go_ret
  exact ⟨rfl, hB.out⟩
theorem Bottom_nil (w : World) : Calls Try.prog 26 #[.pointer none] w fun e w' => e = .returned (.int .i64 (-1)) ∧ Below w.heap.size w w' := by
  go_enter Try.func26, Try.ntmps26
  go_wp2
  go_ret
  exact ⟨rfl, Below.refl _ _⟩
theorem Top_nil (w : World) : Calls Try.prog 24 #[.pointer none] w fun e w' => e = .returned (.int .i64 (-1)) ∧ Below w.heap.size w w' := by
  go_enter Try.func24, Try.ntmps24
  go_wp2
  go_ret
  exact ⟨rfl, Below.refl _ _⟩
theorem Bottom_calls {g n : Nat} {F : Nat → Bool} {jm mm : Nat} {bot top : Int} {w : World} (hg : w.heap[g]? = some (.cells (latC n F jm mm bot top) 79 (0, 0))) :
    Calls Try.prog 26 #[P g] w fun e w' => e = .returned (.int .i64 bot) ∧ Below w.heap.size w w' := by
  have c0 : w.cell? ⟨g, 39, none⟩ = some (.int .i64 bot) := (blk_cell hg 39).trans rfl
  clear hg
  go_enter Try.func26, Try.ntmps26
  go_wp2
  go_ret
  exact ⟨rfl, Below.refl _ _⟩
theorem Top_calls {g n : Nat} {F : Nat → Bool} {jm mm : Nat} {bot top : Int} {w : World} (hg : w.heap[g]? = some (.cells (latC n F jm mm bot top) 79 (0, 0))) :
    Calls Try.prog 24 #[P g] w fun e w' => e = .returned (.int .i64 top) ∧ Below w.heap.size w w' := by
  have c0 : w.cell? ⟨g, 40, none⟩ = some (.int .i64 top) := (blk_cell hg 40).trans rfl
  clear hg
  go_enter Try.func24, Try.ntmps24
  go_wp2
  go_ret
  exact ⟨rfl, Below.refl _ _⟩
end Go.Proofs.Yteopponjfkeagaa.Lat
