import Derived.Test.YteopponjfkeagaaProg
import Derived.Below
import Derived.Deep.Draws
import Derived.Deep.AppendLies
import Derived.Maps.AppendAt
import Derived.OwnWalk
import Derived.Laws.BytesArg
import Derived.Laws.MakeOwn
import Derived.Laws.OwnMore
import Derived.Deep.OwnRows
import Derived.Tactics
import Derived.Lib.ConvBytes
import Derived.Laws.Slices
import Derived.WalkKit
import Derived.KernelRfl
import Derived.RowKit3
import Derived.Deep.LoopGhost
import Derived.Deep.QuietTactic
import Derived.BigQuiet
import Derived.WideLaws
import Derived.Deep.DeepCutAuto
import Derived.Deep.CutBlock
import Derived.Deep.RegionHeld3
import Derived.Laws.Rows
import Derived.Lib.AppendStr
import Derived.ArgAppend
import Derived.Laws.IdiomCopy
import Derived.OrdersHeld
import Derived.Laws.BitsLemmas
import Derived.RowKit
import Derived.Outline
import Derived.StillTailTactics
import Derived.Test.YteopponjfkeagaaWWords
import Derived.Test.YteopponjfkeagaaWLast
import Derived.Test.YteopponjfkeagaaWTab
import Derived.Test.YteopponjfkeagaaWFour
import Derived.Test.YteopponjfkeagaaWQPut
import Derived.Test.YteopponjfkeagaaWApart
import Derived.Test.YteopponjfkeagaaWArr
import Derived.Test.YteopponjfkeagaaWZeros
import Derived.Test.YteopponjfkeagaaWFoot
import Derived.Test.YteopponjfkeagaaWKept
import Derived.Test.YteopponjfkeagaaWShare
import Derived.Test.YteopponjfkeagaaWN
import Derived.Test.YteopponjfkeagaaWFootNe
import Derived.Test.YteopponjfkeagaaWAt
import Derived.Test.YteopponjfkeagaaWEqStruct
import Derived.Test.YteopponjfkeagaaWRepsOne
import Derived.Test.YteopponjfkeagaaWInv
import Derived.Test.YteopponjfkeagaaWInvWords
import Derived.Test.YteopponjfkeagaaWGuard
import Derived.Test.YteopponjfkeagaaWNEv
import Derived.Test.YteopponjfkeagaaWMore
import Derived.Deep.CutRange
import Derived.Maps.OwnOps
import Derived.Maps.OwnSet
import Derived.Maps.Views
import Derived.DeepKeys5
namespace Go.Proofs.Yteopponjfkeagaa.Lat
open Go.RowKit Go.Proofs.YteopponjfkeagaaW.PrintWords Go.Proofs.YteopponjfkeagaaW.PrintLast Go.Proofs.YteopponjfkeagaaW.PrintMore
set_option linter.unusedVariables false
set_option linter.unusedSimpArgs false

/-- the cells of a lattice: its size, which of six times six labels flow to which, its two maps, its bottom and its top -/
def latC (n : Nat) (F : Nat → Bool) (jm mm : Nat) (bot top : Int) : Array Value :=
  ((.int .i64 n) :: ((List.range 36).map (fun i => Value.bool (F i)) ++ [.map (some jm), .map (some mm), .int .i64 bot, .int .i64 top])).toArray
theorem latC_size (n : Nat) (F : Nat → Bool) (jm mm : Nat) (bot top : Int) : (latC n F jm mm bot top)[0]? = some (.int .i64 n) := rfl
theorem latC_flow (n : Nat) (F : Nat → Bool) (jm mm : Nat) (bot top : Int) (i : Nat) (h : i < 36) : (latC n F jm mm bot top)[1 + i]? = some (.bool (F i)) := by
  unfold latC
  rw [List.getElem?_toArray, Nat.add_comm, List.getElem?_cons_succ, List.getElem?_append_left (by simpa using h), List.getElem?_map, List.getElem?_range h]
  rfl
theorem latC_joins (n : Nat) (F : Nat → Bool) (jm mm : Nat) (bot top : Int) : (latC n F jm mm bot top)[37]? = some (.map (some jm)) := rfl
theorem latC_meets (n : Nat) (F : Nat → Bool) (jm mm : Nat) (bot top : Int) : (latC n F jm mm bot top)[38]? = some (.map (some mm)) := rfl
theorem latC_bottom (n : Nat) (F : Nat → Bool) (jm mm : Nat) (bot top : Int) : (latC n F jm mm bot top)[39]? = some (.int .i64 bot) := rfl
theorem latC_top (n : Nat) (F : Nat → Bool) (jm mm : Nat) (bot top : Int) : (latC n F jm mm bot top)[40]? = some (.int .i64 top) := rfl

abbrev P (g : Nat) : Value := .pointer (some ⟨g, 0, none⟩)
theorem Size_calls (g n : Nat) (F : Nat → Bool) (jm mm : Nat) (bot top : Int) (w : World) (hg : w.heap[g]? = some (.cells (latC n F jm mm bot top) 79 (0, 0))) :
    Calls Try.prog 23 #[P g] w fun e w' => e = .returned (.int .i64 n) ∧ Below w.heap.size w w' := by
  have c0 : w.cell? ⟨g, 0, none⟩ = some (.int .i64 n) := (blk_cell hg 0).trans rfl
  clear hg
  go_enter Try.func23, Try.ntmps23
  go_wp2
  go_ret
  exact ⟨rfl, by with_reducible repeat (first | exact Below.refl _ _ | apply pw_below_drewN)⟩
theorem Size_nil (w : World) :
    Calls Try.prog 23 #[.pointer none] w fun e w' => e = .returned (.int .i64 0) ∧ Below w.heap.size w w' := by
  go_enter Try.func23, Try.ntmps23
  go_wp2
  go_ret
  exact ⟨rfl, by with_reducible repeat (first | exact Below.refl _ _ | apply pw_below_drewN)⟩
/-- is there a label -/
def inN (n : Nat) (a : Int) : Bool := decide (0 ≤ a) && decide (a < n)
def Sized (v : Value) (n : Nat) (w : World) : Prop := ∀ W, Below w.heap.size w W → Calls Try.prog 23 #[v] W fun e w' => e = .returned (.int .i64 n) ∧ Below W.heap.size W w'
theorem Sized.later {v : Value} {n : Nat} {w w' : World} (h : Sized v n w) (hb : Below w.heap.size w w') : Sized v n w' := fun W hW => h W (below_step hb hW)
theorem sized_nil (w : World) : Sized (.pointer none) 0 w := fun W _ => Size_nil W
theorem sized_at {g n : Nat} {F : Nat → Bool} {jm mm : Nat} {bot top : Int} {w : World} (hg : w.heap[g]? = some (.cells (latC n F jm mm bot top) 79 (0, 0))) : Sized (P g) n w :=
  fun W hb => Size_calls g n F jm mm bot top W (blk_below hg hb)
theorem is_calls {v : Value} {n : Nat} {w : World} (hS : Sized v n w) (a : Int) :
    Calls Try.prog 67 #[v, .int .i64 a] w fun e w' => e = .returned (.bool (inN n a)) ∧ Below w.heap.size w w' := by
  by_cases ha : 0 ≤ a
  · go_enter Try.func67, Try.ntmps67
    go_wp2_with fail
    refine (hS _ (Below.refl _ _)).mono ?_
    rintro e w1 ⟨rfl, hb⟩
    go_wp2_with fail
    go_ret
    exact ⟨by simp [inN, ha, ← Int.not_le], hb⟩
  · go_enter Try.func67, Try.ntmps67
    go_wp2_with fail
    go_ret
    exact ⟨by unfold inN; rw [decide_eq_false (by omega)]; rfl, Below.refl _ _⟩
theorem Flows_none {v : Value} {n : Nat} {w : World} (hS : Sized v n w) (a b : Int) (h : inN n a = false ∨ inN n b = false) :
    Calls Try.prog 21 #[v, .int .i64 a, .int .i64 b] w fun e w' => e = .returned (.bool false) ∧ Below w.heap.size w w' := by
  cases ha : inN n a
  · go_enter Try.func21, Try.ntmps21
    go_wp2_with fail
    refine (is_calls hS a).mono ?_
    rw [ha]
    rintro e w1 ⟨rfl, hb⟩
    go_wp2_with fail
    go_ret
    exact ⟨rfl, hb⟩
  · have hn : inN n b = false := by
      rcases h with h | h
      · rw [ha] at h; exact absurd h (by decide)
      · exact h
    go_enter Try.func21, Try.ntmps21
    go_wp2_with fail
    refine (is_calls hS a).mono ?_
    rw [ha]
    rintro e w1 ⟨rfl, hb⟩
    go_wp2_with fail
    refine (is_calls (hS.later hb) b).mono ?_
    rw [hn]
    rintro e w2 ⟨rfl, hb2⟩
    go_wp2_with fail
    go_ret
    exact ⟨rfl, below_step hb hb2⟩
theorem inN_iff {n : Nat} {a : Int} : inN n a = true ↔ 0 ≤ a ∧ a < n := by unfold inN; simp
/-- what flows, of any two numbers -/
def flowsF (n : Nat) (F : Nat → Bool) (a b : Int) : Bool := inN n a && inN n b && F (a.toNat * 6 + b.toNat)
theorem Flows_calls {g n : Nat} {F : Nat → Bool} {jm mm : Nat} {bot top : Int} {w : World} (hg : w.heap[g]? = some (.cells (latC n F jm mm bot top) 79 (0, 0))) (hn : n ≤ 6) (a b : Int) :
    Calls Try.prog 21 #[P g, .int .i64 a, .int .i64 b] w fun e w' => e = .returned (.bool (flowsF n F a b)) ∧ Below w.heap.size w w' := by
  by_cases h : inN n a = true ∧ inN n b = true
  case neg =>
    have h' : inN n a = false ∨ inN n b = false := by
      cases ha : inN n a
      · exact .inl rfl
      · cases hb : inN n b
        · exact .inr rfl
        · exact absurd ⟨ha, hb⟩ h
    have e : flowsF n F a b = false := by unfold flowsF; rcases h' with h' | h' <;> simp [h']
    rw [e]
    exact Flows_none (sized_at hg) a b h'
  obtain ⟨ha, hb⟩ := h
  obtain ⟨a0, a1⟩ := inN_iff.1 ha
  obtain ⟨b0, b1⟩ := inN_iff.1 hb
  have HG := Aside0.mk hg
  have hS := sized_at hg
  have e : flowsF n F a b = F (a.toNat * 6 + b.toNat) := by unfold flowsF; rw [ha, hb]; rfl
  rw [e]
  clear hg e
  go_enter Try.func21, Try.ntmps21
  go_wp2_with fail
  refine (is_calls hS a).mono ?_
  rw [ha]
  rintro e w1 ⟨rfl, hb1⟩
  go_wp2_with fail
  refine (is_calls (hS.later hb1) b).mono ?_
  rw [hb]
  rintro e w2 ⟨rfl, hb2⟩
  obtain ⟨m, rfl⟩ := Int.eq_ofNat_of_zero_le a0
  obtain ⟨k, rfl⟩ := Int.eq_ofNat_of_zero_le b0
  have c : w2.cell? ⟨g, 1 + m * 6 + k, none⟩ = some (.bool (F (m * 6 + k))) := by
    rw [Nat.add_assoc]
    exact (blk_cell (blk_below HG.out (below_step hb1 hb2)) (1 + (m * 6 + k))).trans (latC_flow n F jm mm bot top (m * 6 + k) (by omega))
  have hB := Aside0.mk (below_step hb1 hb2)
  clear hb1 hb2 hS HG
  go_wp2_with fail
  go_ret
  exact ⟨rfl, hB.out⟩
theorem Bottom_nil (w : World) : Calls Try.prog 26 #[.pointer none] w fun e w' => e = .returned (.int .i64 (-1)) ∧ Below w.heap.size w w' := by
  go_enter Try.func26, Try.ntmps26
  go_wp2
  go_ret
  exact ⟨rfl, Below.refl _ _⟩
theorem Top_nil (w : World) : Calls Try.prog 24 #[.pointer none] w fun e w' => e = .returned (.int .i64 (-1)) ∧ Below w.heap.size w w' := by
  go_enter Try.func24, Try.ntmps24
  go_wp2
  go_ret
  exact ⟨rfl, Below.refl _ _⟩
theorem Bottom_calls {g n : Nat} {F : Nat → Bool} {jm mm : Nat} {bot top : Int} {w : World} (hg : w.heap[g]? = some (.cells (latC n F jm mm bot top) 79 (0, 0))) :
    Calls Try.prog 26 #[P g] w fun e w' => e = .returned (.int .i64 bot) ∧ Below w.heap.size w w' := by
  have c0 : w.cell? ⟨g, 39, none⟩ = some (.int .i64 bot) := (blk_cell hg 39).trans rfl
  clear hg
  go_enter Try.func26, Try.ntmps26
  go_wp2
  go_ret
  exact ⟨rfl, Below.refl _ _⟩
theorem Top_calls {g n : Nat} {F : Nat → Bool} {jm mm : Nat} {bot top : Int} {w : World} (hg : w.heap[g]? = some (.cells (latC n F jm mm bot top) 79 (0, 0))) :
    Calls Try.prog 24 #[P g] w fun e w' => e = .returned (.int .i64 top) ∧ Below w.heap.size w w' := by
  have c0 : w.cell? ⟨g, 40, none⟩ = some (.int .i64 top) := (blk_cell hg 40).trans rfl
  clear hg
  go_enter Try.func24, Try.ntmps24
  go_wp2
  go_ret
  exact ⟨rfl, Below.refl _ _⟩
end Go.Proofs.Yteopponjfkeagaa.Lat
namespace Go.Proofs.Yteopponjfkeagaa.Lat
open Go.RowKit Go.Proofs.YteopponjfkeagaaW.PrintWords Go.Proofs.YteopponjfkeagaaW.PrintLast Go.Proofs.YteopponjfkeagaaW.PrintMore
set_option linter.unusedVariables false
set_option linter.unusedSimpArgs false

def okC (F : Nat → Bool) (a b c : Nat) : Prop := ¬ (F (a * 6 + b) = true ∧ F (b * 6 + c) = true ∧ F (a * 6 + c) = false)
instance (F : Nat → Bool) (a b c : Nat) : Decidable (okC F a b c) := by unfold okC; infer_instance
def okB (n : Nat) (F : Nat → Bool) (a b : Nat) : Prop := ¬ (a ≠ b ∧ F (a * 6 + b) = true ∧ F (b * 6 + a) = true) ∧ ∀ c, c < n → okC F a b c
def okA (n : Nat) (F : Nat → Bool) (a : Nat) : Prop := F (a * 6 + a) = true ∧ ∀ b, b < n → okB n F a b
/-- is the table an order -/
def orderP (n : Nat) (F : Nat → Bool) : Prop := ∀ a, a < n → okA n F a
/-- the call returns a bool that says whether p holds -/
def IsB (e : Ending) (p : Prop) : Prop := ∃ r : Bool, e = .returned (.bool r) ∧ (r = true ↔ p)
theorem IsB.yes {p : Prop} (h : p) : IsB (.returned (.bool true)) p := ⟨true, rfl, fun _ => h, fun _ => rfl⟩
theorem IsB.no {p : Prop} (h : ¬ p) : IsB (.returned (.bool false)) p := ⟨false, rfl, fun e => absurd e (by decide), fun e => absurd e h⟩
theorem step_all {p : Nat → Prop} {k : Nat} (h : ∀ i, i < k → p i) (hk : p k) : ∀ i, i < k + 1 → p i := fun i hi => by
  rcases Nat.lt_or_ge i k with h1 | h1
  · exact h i h1
  · obtain rfl : i = k := by omega
    exact hk
set_option maxHeartbeats 2000000 in
set_option maxRecDepth 4000 in
theorem order_calls {g n : Nat} {F : Nat → Bool} {jm mm : Nat} {bot top : Int} {w : World} (hg : w.heap[g]? = some (.cells (latC n F jm mm bot top) 79 (0, 0))) (hn : n ≤ 6) :
    Calls Try.prog 60 #[P g] w fun e w' => IsB e (orderP n F) ∧ w' = w := by
  have c0 : w.cell? ⟨g, 0, none⟩ = some (.int .i64 n) := (blk_cell hg 0).trans rfl
  have hc : Aside0 (∀ a b, a < n → b < n → w.cell? ⟨g, 1 + a * 6 + b, none⟩ = some (.bool (F (a * 6 + b)))) := ⟨fun a b h1 h2 => by
    rw [Nat.add_assoc]
    exact (blk_cell hg (1 + (a * 6 + b))).trans (latC_flow n F jm mm bot top (a * 6 + b) (by omega))⟩
  clear hg
  go_enter Try.func60, Try.ntmps60
  go_wp2_with fail
  go_loopw [10] (fun x wr => ∃ a : Nat, x = .int .i64 (a : Int) ∧ a ≤ n ∧ Aside0 (∀ i, i < a → okA n F i) ∧ wr = w) (fun x _ => n - (intOf x).toNat)
  case atStart => exact ⟨0, rfl, Nat.zero_le _, ⟨fun i h => absurd h (by omega)⟩, rfl⟩
  case round =>
    obtain ⟨a, rfl, hle, HA, rfl⟩ := hrel
    by_cases ha : (a : Int) < n
    · have e1 := hc.out a a (by omega) (by omega)
      cases hf : F (a * 6 + a)
      · rw [hf] at e1
        go_wp2_with fail
        go_ret
        exact ⟨IsB.no fun h => absurd (h a (by omega)).1 (by rw [hf]; decide), rfl⟩
      · rw [hf] at e1
        go_wp2_with fail
        go_loopw [26] (fun x wr' => ∃ b : Nat, x = .int .i64 (b : Int) ∧ b ≤ n ∧ Aside0 (∀ i, i < b → okB n F a i) ∧ wr' = wr) (fun x _ => n - (intOf x).toNat)
        case atStart => exact ⟨0, rfl, Nat.zero_le _, ⟨fun i h => absurd h (by omega)⟩, rfl⟩
        case round =>
          obtain ⟨b, rfl, hleb, HB, rfl⟩ := hrel
          by_cases hb : (b : Int) < n
          · have e2 := hc.out a b (by omega) (by omega)
            have e3 := hc.out b a (by omega) (by omega)
            go_upto_region 9 with fail
            go_cut [26, 51] from 26 to 89 (fun i r wx => i = .int .i64 (b : Int) ∧ r = .bool (decide (a ≠ b ∧ F (a * 6 + b) = true ∧ F (b * 6 + a) = true)) ∧ wx = wr)
            case first =>
              by_cases hab : a = b
              · subst hab
                go_wp2_with fail
                go_meet
                case rel => exact ⟨rfl, by simp, rfl⟩
              · have hne : ((a : Int) != (b : Int)) = true := by rw [bne_iff_ne]; omega
                cases h1 : F (a * 6 + b)
                · rw [h1] at e2
                  go_wp2_with fail
                  go_meet
                  case rel => exact ⟨rfl, by rw [decide_eq_false (by intro h; rw [h1] at h; exact absurd h.2.1 (by decide))], rfl⟩
                · rw [h1] at e2
                  go_wp2_with fail
                  go_meet
                  case rel => exact ⟨rfl, by congr 1; rw [Bool.eq_iff_iff, decide_eq_true_iff]; exact ⟨fun h => ⟨hab, h1, h⟩, fun h => h.2.2⟩, rfl⟩
            case rest =>
              obtain ⟨rfl, rfl, rfl⟩ := hcut
              by_cases hbad : a ≠ b ∧ F (a * 6 + b) = true ∧ F (b * 6 + a) = true
              · have hd : decide (a ≠ b ∧ F (a * 6 + b) = true ∧ F (b * 6 + a) = true) = true := decide_eq_true hbad
                rw [hd]
                go_wp2_with fail
                go_ret
                exact ⟨IsB.no fun h => ((h a (by omega)).2 b (by omega)).1 hbad, rfl⟩
              · have hd : decide (a ≠ b ∧ F (a * 6 + b) = true ∧ F (b * 6 + a) = true) = false := decide_eq_false hbad
                rw [hd]
                have HBAD := Aside0.mk hbad
                clear hbad
                go_wp2_with fail
                clear hd
                go_loopw [56] (fun x wr' => ∃ c : Nat, x = .int .i64 (c : Int) ∧ c ≤ n ∧ Aside0 (∀ i, i < c → okC F a b i) ∧ wr' = wc) (fun x _ => n - (intOf x).toNat)
                case atStart => exact ⟨0, rfl, Nat.zero_le _, ⟨fun i h => absurd h (by omega)⟩, rfl⟩
                case round =>
                  obtain ⟨c, rfl, hlec, HC, rfl⟩ := hrel
                  by_cases hcn : (c : Int) < n
                  · have e4 := hc.out b c (by omega) (by omega)
                    have e5 := hc.out a c (by omega) (by omega)
                    go_upto_region 14 with fail
                    go_cut [56, 87] from 56 to 88 (fun i r wx => i = .int .i64 (c : Int) ∧ r = .bool (decide (¬ okC F a b c)) ∧ wx = wr)
                    case first =>
                      cases h1 : F (a * 6 + b)
                      · rw [h1] at e2
                        go_wp2_with fail
                        go_meet
                        case rel => exact ⟨rfl, by rw [decide_eq_false]; unfold okC; rw [h1]; simp, rfl⟩
                      · rw [h1] at e2
                        cases h2 : F (b * 6 + c)
                        · rw [h2] at e4
                          go_wp2_with fail
                          go_meet
                          case rel => exact ⟨rfl, by rw [decide_eq_false]; unfold okC; rw [h2]; simp, rfl⟩
                        · rw [h2] at e4
                          go_wp2_with fail
                          go_meet
                          case rel => exact ⟨rfl, by congr 1; cases h3 : F (a * 6 + c); exact (decide_eq_true (by unfold okC; simp [h1, h2, h3])).symm; exact (decide_eq_false (by unfold okC; simp [h1, h2, h3])).symm, rfl⟩
                    case rest =>
                      obtain ⟨rfl, rfl, rfl⟩ := hcut
                      by_cases hbc : okC F a b c
                      · have hd2 : decide (¬ okC F a b c) = false := decide_eq_false (fun h => h hbc)
                        rw [hd2]
                        go_wp2_with fail
                        exact ⟨⟨c + 1, rfl, by omega, ⟨step_all HC.out hbc⟩, by first | rfl | trivial⟩, by simp [intOf]; omega⟩
                      · have hd2 : decide (¬ okC F a b c) = true := decide_eq_true hbc
                        rw [hd2]
                        go_wp2_with fail
                        go_ret
                        exact ⟨IsB.no fun h => hbc (((h a (by omega)).2 b (by omega)).2 c (by omega)), rfl⟩
                  · go_wp2_with fail
                    exact ⟨⟨b + 1, rfl, by omega, ⟨step_all HB.out ⟨HBAD.out, fun j hj => HC.out j (by omega)⟩⟩, by first | rfl | trivial⟩, by simp [intOf]; omega⟩
          · go_wp2_with fail
            exact ⟨⟨a + 1, rfl, by omega, ⟨step_all HA.out ⟨hf, fun j hj => HB.out j (by omega)⟩⟩, by first | rfl | trivial⟩, by simp [intOf]; omega⟩
    · go_wp2_with fail
      go_ret
      exact ⟨IsB.yes fun i hi => HA.out i (by omega), rfl⟩
end Go.Proofs.Yteopponjfkeagaa.Lat
namespace Go.Proofs.Yteopponjfkeagaa.Lat
open Go.RowKit Go.Proofs.YteopponjfkeagaaW.PrintWords Go.Proofs.YteopponjfkeagaaW.PrintLast Go.Proofs.YteopponjfkeagaaW.PrintMore
set_option linter.unusedVariables false
set_option linter.unusedSimpArgs false

theorem info_int : (Try.prog.info? 3).map (fun i => (i.zero, i.size, i.bytes)) = some (some (.int .i64 0), 1, 8) := by kernel_rfl
/-- the numbers below n that count, rising -/
def pick (T : Int → Bool) (n : Nat) : List Int := ((List.range n).filter fun i : Nat => T (i : Int)).map fun i : Nat => (i : Int)
theorem pick_succ (T : Int → Bool) (i : Nat) : pick T (i + 1) = if T i = true then pick T i ++ [(i : Int)] else pick T i := by
  unfold pick
  rw [List.range_succ, List.filter_append, List.map_append]
  cases h : T i <;> simp [h]
theorem pick_length (T : Int → Bool) (n : Nat) : (pick T n).length ≤ n := by
  unfold pick
  rw [List.length_map]
  exact Nat.le_trans (List.length_filter_le _ _) (by simp)
theorem those_calls (k : Nat) (first caps : Array Value) (hk : ∀ args W, (callFunc k args).run Try.prog W = .ok (.enter k args) W) {v : Value} {n : Nat} {w : World} (hn : n ≤ 6) (hS : Sized v n w) (T : Int → Bool)
    (hT : ∀ W, Below w.heap.size w W → ∀ i : Nat, i < n → Calls Try.prog k (first.push (.int .i64 i) ++ caps) W fun e w' => e = .returned (.bool (T i)) ∧ Below W.heap.size W w') :
    Calls Try.prog 69 #[v, .func (Fn.func k) first caps] w fun e w' => ∃ u : Value, e = .returned u ∧ Kd.R (Kd.int .i64) 3 w' w.heap.size (fun _ => True) u (pick T n) ∧ Below w.heap.size w w' := by
  go_enter Try.func69, Try.ntmps69
  go_wp2_with fail
  refine (hS _ (Below.refl _ _)).mono ?_
  rintro e w1 ⟨rfl, hb⟩
  have HB := Aside0.mk hb
  clear hb hS
  go_wp2_with fail
  go_loopw [5, 9] (fun o x wr => ∃ i : Nat, x = .int .i64 (i : Int) ∧ i ≤ n ∧ Aside0 (Kd.R (Kd.int .i64) 3 wr w.heap.size (fun _ => True) o (pick T i)) ∧ Aside0 (Below w.heap.size w wr)) (fun _ x _ => n - (intOf x).toNat)
  case atStart => exact ⟨0, rfl, Nat.zero_le _, ⟨by rw [show pick T 0 = [] from rfl]; exact Kd.R_nil _ _ _ _ _⟩, HB⟩
  case round =>
    clear HB
    obtain ⟨i, rfl, hi, HR, HB⟩ := hrel
    by_cases hx : (i : Int) < n
    · go_wp2_with fail
      refine (hT _ HB.out i (by omega)).mono ?_
      rintro e w2 ⟨rfl, hb⟩
      have HB2 := Aside0.mk (below_step HB.out hb)
      have HR2 := Aside0.mk (Kd.R_below HR.out hb)
      clear HB HR hb
      cases ht : T i
      · go_wp2_with fail
        exact ⟨⟨i + 1, rfl, by omega, ⟨by rw [pick_succ, ht]; exact HR2.out⟩, HB2⟩, by simp [intOf]; omega⟩
      · have hl := pick_length T i
        go_wp2_with (first | ((with_reducible refine gate_builtin (b := .append) (xs := #[.tmp 15, .tmp 17]) rfl ?_); at_builtin; refine Kd.R_append (Kd.int .i64) (w0 := w) w.heap.size rfl (.tmp 15) (.tmp 17) 39 3 (.int .i64 0) 8 rfl Try.underlying39 info_int rfl (by decide) (by omega) u5 (pick T i) (i : Int) [.int .i64 (i : Int)] (fun _ => True) (fun _ => False) rfl rfl ?aP (fun _ hk => hk.elim) ?aF ?aO ?aB ?aS ?aL ?_; (case aP => exact rfl); (case aB => exact HB2.out); (case aF => exact (fun _ _ => trivial)); (case aO => exact HR2.out); (case aS => exact below_size HB2.out); (case aL => omega); intro v163 w11 ho hb hg hat))
        exact ⟨⟨i + 1, rfl, by omega, ⟨by rw [pick_succ, if_pos ht]; exact ho⟩, ⟨hb⟩⟩, by simp [intOf]; omega⟩
    · obtain rfl : i = n := by omega
      go_wp2_with fail
      go_ret
      exact ⟨_, rfl, HR.out, HB.out⟩
end Go.Proofs.Yteopponjfkeagaa.Lat
namespace Go.Proofs.Yteopponjfkeagaa.Lat
open Go.RowKit Go.Proofs.YteopponjfkeagaaW.PrintWords Go.Proofs.YteopponjfkeagaaW.PrintLast Go.Proofs.YteopponjfkeagaaW.PrintMore
set_option linter.unusedVariables false
set_option linter.unusedSimpArgs false

/-- whatever the two labels: what Flows tells from here on -/
def Flowing (v : Value) (T : Int → Int → Bool) (w : World) : Prop := ∀ W, Below w.heap.size w W → ∀ a b : Int, Calls Try.prog 21 #[v, .int .i64 a, .int .i64 b] W fun e w' => e = .returned (.bool (T a b)) ∧ Below W.heap.size W w'
theorem flowing_nil (w : World) : Flowing (.pointer none) (fun _ _ => false) w := fun W hb a b => Flows_none (sized_nil W) a b (.inl (by unfold inN; rw [Bool.eq_false_iff]; intro h; simp at h; omega))
theorem flowing_at {g n : Nat} {F : Nat → Bool} {jm mm : Nat} {bot top : Int} {w : World} (hg : w.heap[g]? = some (.cells (latC n F jm mm bot top) 79 (0, 0))) (hn : n ≤ 6) : Flowing (P g) (flowsF n F) w :=
  fun W hb a b => Flows_calls (blk_below hg hb) hn a b
theorem Flowing.later {v : Value} {T : Int → Int → Bool} {w w' : World} (h : Flowing v T w) (hb : Below w.heap.size w w') : Flowing v T w' := fun W hW => h W (below_step hb hW)
theorem Above1_calls {v : Value} {T : Int → Int → Bool} {w : World} (hT : Flowing v T w) (lb ab : Nat) (a x : Int) (hl : w.heap[lb]? = some (.cells #[v] 25 (0, 0))) (ha : w.heap[ab]? = some (.cells #[.int .i64 a] 3 (0, 0))) :
    Calls Try.prog 70 #[.int .i64 x, .pointer (some ⟨lb, 0, none⟩), .pointer (some ⟨ab, 0, none⟩)] w fun e w' => e = .returned (.bool (T a x)) ∧ Below w.heap.size w w' := by
  have c1 : w.cell? ⟨lb, 0, none⟩ = some v := (blk_cell hl 0).trans rfl
  have c2 : w.cell? ⟨ab, 0, none⟩ = some (.int .i64 a) := (blk_cell ha 0).trans rfl
  clear hl ha
  go_enter Try.func70, Try.ntmps70
  go_wp2_with fail
  refine (hT _ (Below.refl _ _) a x).mono ?_
  rintro e w1 ⟨rfl, hb⟩
  go_wp2_with fail
  go_ret
  exact ⟨rfl, hb⟩
theorem Below1_calls {v : Value} {T : Int → Int → Bool} {w : World} (hT : Flowing v T w) (lb ab : Nat) (a x : Int) (hl : w.heap[lb]? = some (.cells #[v] 25 (0, 0))) (ha : w.heap[ab]? = some (.cells #[.int .i64 a] 3 (0, 0))) :
    Calls Try.prog 71 #[.int .i64 x, .pointer (some ⟨lb, 0, none⟩), .pointer (some ⟨ab, 0, none⟩)] w fun e w' => e = .returned (.bool (T x a)) ∧ Below w.heap.size w w' := by
  have c1 : w.cell? ⟨lb, 0, none⟩ = some v := (blk_cell hl 0).trans rfl
  have c2 : w.cell? ⟨ab, 0, none⟩ = some (.int .i64 a) := (blk_cell ha 0).trans rfl
  clear hl ha
  go_enter Try.func71, Try.ntmps71
  go_wp2_with fail
  refine (hT _ (Below.refl _ _) x a).mono ?_
  rintro e w1 ⟨rfl, hb⟩
  go_wp2_with fail
  go_ret
  exact ⟨rfl, hb⟩
theorem Above_calls {o : Option Addr} {n : Nat} {T : Int → Int → Bool} {w : World} (hn : n ≤ 6) (hS : Sized (.pointer o) n w) (hT : Flowing (.pointer o) T w) (a : Int) :
    Calls Try.prog 31 #[.pointer o, .int .i64 a] w fun e w' => ∃ u : Value, e = .returned u ∧ Kd.R (Kd.int .i64) 3 w' w.heap.size (fun _ => True) u (pick (fun x => T a x) n) ∧ Below w.heap.size w w' := by
  have hmf : ∀ (fn : Fn) (first cap : Array Value) (w : World), (Instr.makeFunc fn first cap).run Try.prog w = .ok (.func fn first cap) w := fun _ _ _ _ => rfl
  go_enter Try.func31, Try.ntmps31
  go_wp2_with fail
  have H1 : ((w.alloc (.cells #[.pointer o] 25)).alloc (.cells #[.int .i64 a] 3)).heap[w.heap.size]? = some (.cells #[.pointer o] 25 (0, 0)) := blk_alloc (blk_new w _) _
  have H2 : ((w.alloc (.cells #[.pointer o] 25)).alloc (.cells #[.int .i64 a] 3)).heap[w.heap.size + 1]? = some (.cells #[.int .i64 a] 3 (0, 0)) := by
    have := blk_new (w.alloc (.cells #[.pointer o] 25)) (.cells #[.int .i64 a] 3)
    rw [World.size_alloc] at this
    exact this
  have HB := below_alloc (below_alloc (Below.refl w.heap.size w) (.cells #[.pointer o] 25)) (.cells #[.int .i64 a] 3)
  have HS := hS.later HB
  have HT := hT.later HB
  refine (those_calls 70 #[] #[.pointer (some ⟨w.heap.size, 0, none⟩), .pointer (some ⟨w.heap.size + 1, 0, none⟩)] (fun _ _ => enters_ Try.func70 (by kernel_rfl) rfl _ _) hn HS (fun x => T a x) (fun W hW i hi => Above1_calls (HT.later hW) w.heap.size (w.heap.size + 1) a i (blk_below H1 hW) (blk_below H2 hW))).mono ?_
  rintro e w1 ⟨u, rfl, hR, hb⟩
  clear H1 H2 HS HT
  go_wp2_with fail
  go_ret
  exact ⟨u, rfl, Kd.R_lower hR HB.size, below_step HB hb⟩
theorem Below_calls {o : Option Addr} {n : Nat} {T : Int → Int → Bool} {w : World} (hn : n ≤ 6) (hS : Sized (.pointer o) n w) (hT : Flowing (.pointer o) T w) (a : Int) :
    Calls Try.prog 33 #[.pointer o, .int .i64 a] w fun e w' => ∃ u : Value, e = .returned u ∧ Kd.R (Kd.int .i64) 3 w' w.heap.size (fun _ => True) u (pick (fun x => T x a) n) ∧ Below w.heap.size w w' := by
  have hmf : ∀ (fn : Fn) (first cap : Array Value) (w : World), (Instr.makeFunc fn first cap).run Try.prog w = .ok (.func fn first cap) w := fun _ _ _ _ => rfl
  go_enter Try.func33, Try.ntmps33
  go_wp2_with fail
  have H1 : ((w.alloc (.cells #[.pointer o] 25)).alloc (.cells #[.int .i64 a] 3)).heap[w.heap.size]? = some (.cells #[.pointer o] 25 (0, 0)) := blk_alloc (blk_new w _) _
  have H2 : ((w.alloc (.cells #[.pointer o] 25)).alloc (.cells #[.int .i64 a] 3)).heap[w.heap.size + 1]? = some (.cells #[.int .i64 a] 3 (0, 0)) := by
    have := blk_new (w.alloc (.cells #[.pointer o] 25)) (.cells #[.int .i64 a] 3)
    rw [World.size_alloc] at this
    exact this
  have HB := below_alloc (below_alloc (Below.refl w.heap.size w) (.cells #[.pointer o] 25)) (.cells #[.int .i64 a] 3)
  have HS := hS.later HB
  have HT := hT.later HB
  refine (those_calls 71 #[] #[.pointer (some ⟨w.heap.size, 0, none⟩), .pointer (some ⟨w.heap.size + 1, 0, none⟩)] (fun _ _ => enters_ Try.func71 (by kernel_rfl) rfl _ _) hn HS (fun x => T x a) (fun W hW i hi => Below1_calls (HT.later hW) w.heap.size (w.heap.size + 1) a i (blk_below H1 hW) (blk_below H2 hW))).mono ?_
  rintro e w1 ⟨u, rfl, hR, hb⟩
  clear H1 H2 HS HT
  go_wp2_with fail
  go_ret
  exact ⟨u, rfl, Kd.R_lower hR HB.size, below_step HB hb⟩
end Go.Proofs.Yteopponjfkeagaa.Lat
namespace Go.Proofs.Yteopponjfkeagaa.Lat
open Go.RowKit Go.Maps Go.Proofs.YteopponjfkeagaaW.PrintWords Go.Proofs.YteopponjfkeagaaW.PrintLast Go.Proofs.YteopponjfkeagaaW.PrintMore
set_option linter.unusedVariables false
set_option linter.unusedSimpArgs false

theorem pair_law : Keyed Try.prog 82 := Keyed.of_law (deep_law_gate (by kernel_rfl) (by decide +kernel) (by decide +kernel) (by kernel_rfl) (by kernel_rfl))
abbrev pairV (a b : Int) : Value := .agg #[.int .i64 a, .int .i64 b]
theorem pair_key (a b : Int) (ha : (Lit.int .i64 a).wf = true) (hb : (Lit.int .i64 b).wf = true) : keyOf Try.prog 82 (pairV a b) = some (.string (keyBytes [.int .i64 a, .int .i64 b])) := by
  have h1 : Try.prog.keyType 82 = true := by kernel_rfl
  have h2 : Value.formed Try.prog 82 (pairV a b) = true := by first | kernel_rfl | rfl | simp [Value.formed]
  have c82 : Try.prog.cellsOf 82 = 2 := by kernel_rfl
  have c3 : Try.prog.cellsOf 3 = 1 := by kernel_rfl
  have h3 : Try.prog.keyLits (Try.prog.types.size + 1) 82 [.int .i64 a, .int .i64 b] = some [.int .i64 a, .int .i64 b] := by
    have hp : 0 < Try.prog.types.size := by decide +kernel
    obtain ⟨m, hm⟩ : ∃ m, Try.prog.types.size + 1 = m + 2 := ⟨Try.prog.types.size - 1, by omega⟩
    rw [hm]
    simp [Program.keyLits, Try.underlying82, Try.underlying3, ha, hb, c82, c3]
  unfold keyOf
  rw [Try.underlying82]
  simp only [h1, h2, Bool.and_self, if_true]
  have h4 : (pairV a b).cells.toList = [.int .i64 a, .int .i64 b] := rfl
  rw [h4, h3]
  rfl
def kl (a b : Int) : Lit := .string (keyBytes [.int .i64 a, .int .i64 b])
def okI (a : Int) : Prop := (Lit.int .i64 a).wf = true
theorem okI_small {a : Int} (h0 : -100 ≤ a) (h1 : a ≤ 100) : okI a := WalkArith.wf_i64 (by omega)
theorem pair_at {a b : Int} (ha : okI a) (hb : okI b) : keyOf Try.prog 82 (pairV a b) = some (kl a b) := pair_key a b ha hb
theorem kl_inj {a b c d : Int} (ha : okI a) (hb : okI b) (hc : okI c) (hd : okI d) (h : kl a b = kl c d) : a = c ∧ b = d := by
  have h1 := pair_at ha hb
  rw [h] at h1
  have := pair_law.inj h1 (pair_at hc hd)
  simp only [pairV, Value.agg.injEq, Array.mk.injEq, List.cons.injEq, Value.int.injEq, true_and, and_true] at this
  exact this
/-- block b is a map of at most m entries; a look-up tells J -/
def Tab (w : World) (b m : Nat) (J : Int → Int → Int) : Prop :=
  ∃ D : DataW Unit, w.ownsMap Try.prog 82 (plainElem Try.prog 3) b m D ∧ IsMap D ∧ ∀ a c, okI a → okI c → D.atKey (kl a c) (.lit (.int .i64 0)) = .lit (.int .i64 (J a c))
theorem zero_int (w : World) : (zeroValue 3).run Try.prog w = .ok (.int .i64 0) w := by kernel_rfl
theorem Tab.look {w : World} {b m : Nat} {J : Int → Int → Int} (h : Tab w b m J) {a c : Int} (ha : okI a) (hc : okI c) : (Instr.lookup 75 (.map (some b)) (pairV a c) false).run Try.prog w = .ok (.int .i64 (J a c)) w := by
  obtain ⟨D, ho, hi, hJ⟩ := h
  obtain ⟨x, hrun, hat, _⟩ := ho.lookup_int pair_law Try.underlying75 Try.underlying3 (zero_int w) (pair_at ha hc)
  rw [hJ a c ha hc] at hat
  injection hat with hat
  injection hat with _ hat
  rw [hrun, hat]
theorem Tab.later {w w' : World} {b m : Nat} {J : Int → Int → Int} (h : Tab w b m J) (hb : Below w.heap.size w w') : Tab w' b m J := by
  obtain ⟨D, ho, hi, hJ⟩ := h
  obtain ⟨es, clock, hk, F, hs, hD⟩ := ho
  exact ⟨D, ⟨es, clock, blk_below hk hb, F, hs, hD⟩, hi, hJ⟩
theorem Tab.at_block {w w' : World} {b m : Nat} {J : Int → Int → Int} (h : Tab w b m J) (hb : w'.heap[b]? = w.heap[b]?) : Tab w' b m J := by
  obtain ⟨D, ho, hi, hJ⟩ := h
  obtain ⟨es, clock, hk, F, hs, hD⟩ := ho
  exact ⟨D, ⟨es, clock, hb.trans hk, F, hs, hD⟩, hi, hJ⟩
theorem Tab.made (w : World) : Tab (w.alloc (.map #[] 0)) w.heap.size 0 (fun _ _ => 0) :=
  ⟨_, World.ownsMap_made w _ _ _, ⟨_, rfl⟩, fun a c _ _ => rfl⟩
theorem Tab.put {w : World} {b m : Nat} {J : Int → Int → Int} (h : Tab w b m J) (hm : m < 1000) {a c x : Int} (ha : okI a) (hc : okI c) (hx : okI x) :
    ∃ w', (Instr.mapUpdate 75 (.map (some b)) (pairV a c) (.int .i64 x)).run Try.prog w = .ok () w' ∧ Tab w' b (m + 1) (fun i j => if i = a ∧ j = c then x else J i j) ∧ w.grownBy w' (some b) := by
  obtain ⟨D, ho, hi, hJ⟩ := h
  obtain ⟨w', hrun, ho', hg⟩ := ho.update pair_law Try.underlying75 (by unfold maxLen; omega) (pair_at ha hc) (plainElem_int Try.underlying3 hx)
  refine ⟨w', hrun, ⟨_, ho', ?_, fun i j h1 h2 => ?_⟩, hg⟩
  · exact ho'.isMap
  · by_cases hij : i = a ∧ j = c
    · obtain ⟨rfl, rfl⟩ := hij
      rw [atKey_put_same hi (pair_law.key (pair_at ha hc))]
      simp
    · rw [atKey_put_other (fun e => hij (kl_inj h1 h2 ha hc e)), hJ i j h1 h2]
      simp only [if_neg hij]
end Go.Proofs.Yteopponjfkeagaa.Lat
namespace Go.Proofs.Yteopponjfkeagaa.Lat
open Go.RowKit Go.Maps Go.Proofs.YteopponjfkeagaaW.PrintWords Go.Proofs.YteopponjfkeagaaW.PrintLast Go.Proofs.YteopponjfkeagaaW.PrintMore
set_option linter.unusedVariables false
set_option linter.unusedSimpArgs false

/-- what Join and Meet tell of two labels -/
def findF (n : Nat) (J : Int → Int → Int) (a b : Int) : Int × Int := if inN n a = true ∧ inN n b = true then (J a b, 0) else (0, 1)
theorem find_calls {g n : Nat} {F : Nat → Bool} {jm mm : Nat} {bot top : Int} {w : World} (hg : w.heap[g]? = some (.cells (latC n F jm mm bot top) 79 (0, 0))) (hn : n ≤ 6) (k lb mb m : Nat) (J : Int → Int → Int)
    (hk : ∀ args W, (callFunc k args).run Try.prog W = .ok (.enter k args) W) (hW : ∀ W, Below w.heap.size w W → Calls Try.prog k #[.pointer (some ⟨lb, 0, none⟩)] W fun e w' => e = .returned (.map (some mb)) ∧ Below W.heap.size W w') (hJ : Tab w mb m J) (a b : Int) :
    Calls Try.prog 64 #[P g, .int .i64 a, .int .i64 b, .func (Fn.func k) #[] #[.pointer (some ⟨lb, 0, none⟩)]] w fun e w' => e = .returned (.tuple #[.int .i64 (findF n J a b).1, .int .i64 (findF n J a b).2]) ∧ Below w.heap.size w w' := by
  have hS := sized_at hg
  have HJ := Aside0.mk hJ
  clear hg hJ
  go_enter Try.func64, Try.ntmps64
  cases ha : inN n a
  · go_wp2_with fail
    refine (is_calls hS a).mono ?_
    rw [ha]
    rintro e w1 ⟨rfl, hb⟩
    go_wp2_with fail
    exact bodyPost_ret (v := .tuple #[.int .i64 0, .int .i64 1]) (by simp [results, Try.results64, go_sem]) rfl ⟨by simp [findF, ha], hb⟩
  · go_wp2_with fail
    refine (is_calls hS a).mono ?_
    rw [ha]
    rintro e w1 ⟨rfl, hb⟩
    go_wp2_with fail
    refine (is_calls (hS.later hb) b).mono ?_
    cases hbn : inN n b
    · rintro e w2 ⟨rfl, hb2⟩
      go_wp2_with fail
      exact bodyPost_ret (v := .tuple #[.int .i64 0, .int .i64 1]) (by simp [results, Try.results64, go_sem]) rfl ⟨by simp [findF, hbn], below_step hb hb2⟩
    · rintro e w2 ⟨rfl, hb2⟩
      go_wp2_with fail
      refine (hW _ (below_step hb hb2)).mono ?_
      rintro e w3 ⟨rfl, hb3⟩
      have HB := below_step (below_step hb hb2) hb3
      have h1 := inN_iff.1 ha
      have h2 := inN_iff.1 hbn
      have hl := (HJ.out.later HB).look (okI_small (a := a) (by omega) (by omega)) (okI_small (a := b) (by omega) (by omega))
      go_wp2_with fail
      exact bodyPost_ret (v := .tuple #[.int .i64 (J a b), .int .i64 0]) (by simp [results, Try.results64, go_sem]) rfl ⟨by simp [findF, ha, hbn], HB⟩
theorem find_nil (v : Value) (a b : Int) (w : World) : Calls Try.prog 64 #[.pointer none, .int .i64 a, .int .i64 b, v] w fun e w' => e = .returned (.tuple #[.int .i64 0, .int .i64 7]) ∧ Below w.heap.size w w' := by
  go_enter Try.func64, Try.ntmps64
  go_wp2_with fail
  exact bodyPost_ret (v := .tuple #[.int .i64 0, .int .i64 7]) (by simp [results, Try.results64, go_sem]) rfl ⟨rfl, Below.refl _ _⟩
theorem Join1_calls {g n : Nat} {F : Nat → Bool} {jm mm : Nat} {bot top : Int} {w : World} (lb : Nat) (hg : w.heap[g]? = some (.cells (latC n F jm mm bot top) 79 (0, 0))) (hl : w.heap[lb]? = some (.cells #[P g] 25 (0, 0))) :
    Calls Try.prog 65 #[.pointer (some ⟨lb, 0, none⟩)] w fun e w' => e = .returned (.map (some jm)) ∧ Below w.heap.size w w' := by
  have c1 : w.cell? ⟨lb, 0, none⟩ = some (P g) := (blk_cell hl 0).trans rfl
  have c2 : w.cell? ⟨g, 37, none⟩ = some (.map (some jm)) := (blk_cell hg 37).trans rfl
  clear hg hl
  go_enter Try.func65, Try.ntmps65
  go_wp2_with fail
  go_ret
  exact ⟨rfl, Below.refl _ _⟩
theorem Join_calls {g n : Nat} {F : Nat → Bool} {jm mm : Nat} {bot top : Int} {w : World} (hg : w.heap[g]? = some (.cells (latC n F jm mm bot top) 79 (0, 0))) (hn : n ≤ 6) {m : Nat} {J : Int → Int → Int} (hJ : Tab w jm m J) (a b : Int) :
    Calls Try.prog 19 #[P g, .int .i64 a, .int .i64 b] w fun e w' => e = .returned (.tuple #[.int .i64 (findF n J a b).1, .int .i64 (findF n J a b).2]) ∧ Below w.heap.size w w' := by
  have hmf : ∀ (fn : Fn) (first cap : Array Value) (w : World), (Instr.makeFunc fn first cap).run Try.prog w = .ok (.func fn first cap) w := fun _ _ _ _ => rfl
  have HG := Aside0.mk (blk_alloc hg (.cells #[P g] 25))
  have HL := Aside0.mk (blk_new w (.cells #[P g] 25))
  have HB := Aside0.mk (below_alloc (Below.refl w.heap.size w) (.cells #[P g] 25))
  have HJ := Aside0.mk (hJ.later HB.out)
  clear hg hJ
  go_enter Try.func19, Try.ntmps19
  go_wp2_with fail
  refine (find_calls HG.out hn 65 w.heap.size jm m J (fun _ _ => enters_ Try.func65 (by kernel_rfl) rfl _ _) (fun W hW => Join1_calls w.heap.size (blk_below HG.out hW) (blk_below HL.out hW)) HJ.out a b).mono ?_
  rintro e w1 ⟨rfl, hb⟩
  obtain ⟨⟨r1, r2⟩, he⟩ : ∃ r, findF n J a b = r := ⟨_, rfl⟩
  rw [he]
  have HE := Aside0.mk he
  clear he
  go_wp2_with fail
  exact bodyPost_ret (v := .tuple #[.int .i64 r1, .int .i64 r2]) (by simp [results, Try.results19, go_sem]) rfl ⟨by rw [HE.out], below_step HB.out hb⟩
theorem Join_nil (a b : Int) (w : World) : Calls Try.prog 19 #[.pointer none, .int .i64 a, .int .i64 b] w fun e w' => e = .returned (.tuple #[.int .i64 0, .int .i64 7]) ∧ Below w.heap.size w w' := by
  have hmf : ∀ (fn : Fn) (first cap : Array Value) (w : World), (Instr.makeFunc fn first cap).run Try.prog w = .ok (.func fn first cap) w := fun _ _ _ _ => rfl
  have HB := Aside0.mk (below_alloc (Below.refl w.heap.size w) (.cells #[.pointer none] 25))
  go_enter Try.func19, Try.ntmps19
  go_wp2_with fail
  refine (find_nil _ a b _).mono ?_
  rintro e w1 ⟨rfl, hb⟩
  go_wp2_with fail
  exact bodyPost_ret (v := .tuple #[.int .i64 0, .int .i64 7]) (by simp [results, Try.results19, go_sem]) rfl ⟨rfl, below_step HB.out hb⟩
theorem Meet1_calls {g n : Nat} {F : Nat → Bool} {jm mm : Nat} {bot top : Int} {w : World} (lb : Nat) (hg : w.heap[g]? = some (.cells (latC n F jm mm bot top) 79 (0, 0))) (hl : w.heap[lb]? = some (.cells #[P g] 25 (0, 0))) :
    Calls Try.prog 66 #[.pointer (some ⟨lb, 0, none⟩)] w fun e w' => e = .returned (.map (some mm)) ∧ Below w.heap.size w w' := by
  have c1 : w.cell? ⟨lb, 0, none⟩ = some (P g) := (blk_cell hl 0).trans rfl
  have c2 : w.cell? ⟨g, 38, none⟩ = some (.map (some mm)) := (blk_cell hg 38).trans rfl
  clear hg hl
  go_enter Try.func66, Try.ntmps66
  go_wp2_with fail
  go_ret
  exact ⟨rfl, Below.refl _ _⟩
theorem Meet_calls {g n : Nat} {F : Nat → Bool} {jm mm : Nat} {bot top : Int} {w : World} (hg : w.heap[g]? = some (.cells (latC n F jm mm bot top) 79 (0, 0))) (hn : n ≤ 6) {m : Nat} {J : Int → Int → Int} (hJ : Tab w mm m J) (a b : Int) :
    Calls Try.prog 20 #[P g, .int .i64 a, .int .i64 b] w fun e w' => e = .returned (.tuple #[.int .i64 (findF n J a b).1, .int .i64 (findF n J a b).2]) ∧ Below w.heap.size w w' := by
  have hmf : ∀ (fn : Fn) (first cap : Array Value) (w : World), (Instr.makeFunc fn first cap).run Try.prog w = .ok (.func fn first cap) w := fun _ _ _ _ => rfl
  have HG := Aside0.mk (blk_alloc hg (.cells #[P g] 25))
  have HL := Aside0.mk (blk_new w (.cells #[P g] 25))
  have HB := Aside0.mk (below_alloc (Below.refl w.heap.size w) (.cells #[P g] 25))
  have HJ := Aside0.mk (hJ.later HB.out)
  clear hg hJ
  go_enter Try.func20, Try.ntmps20
  go_wp2_with fail
  refine (find_calls HG.out hn 66 w.heap.size mm m J (fun _ _ => enters_ Try.func66 (by kernel_rfl) rfl _ _) (fun W hW => Meet1_calls w.heap.size (blk_below HG.out hW) (blk_below HL.out hW)) HJ.out a b).mono ?_
  rintro e w1 ⟨rfl, hb⟩
  obtain ⟨⟨r1, r2⟩, he⟩ : ∃ r, findF n J a b = r := ⟨_, rfl⟩
  rw [he]
  have HE := Aside0.mk he
  clear he
  go_wp2_with fail
  exact bodyPost_ret (v := .tuple #[.int .i64 r1, .int .i64 r2]) (by simp [results, Try.results20, go_sem]) rfl ⟨by rw [HE.out], below_step HB.out hb⟩
theorem Meet_nil (a b : Int) (w : World) : Calls Try.prog 20 #[.pointer none, .int .i64 a, .int .i64 b] w fun e w' => e = .returned (.tuple #[.int .i64 0, .int .i64 7]) ∧ Below w.heap.size w w' := by
  have hmf : ∀ (fn : Fn) (first cap : Array Value) (w : World), (Instr.makeFunc fn first cap).run Try.prog w = .ok (.func fn first cap) w := fun _ _ _ _ => rfl
  have HB := Aside0.mk (below_alloc (Below.refl w.heap.size w) (.cells #[.pointer none] 25))
  go_enter Try.func20, Try.ntmps20
  go_wp2_with fail
  refine (find_nil _ a b _).mono ?_
  rintro e w1 ⟨rfl, hb⟩
  go_wp2_with fail
  exact bodyPost_ret (v := .tuple #[.int .i64 0, .int .i64 7]) (by simp [results, Try.results20, go_sem]) rfl ⟨rfl, below_step HB.out hb⟩
end Go.Proofs.Yteopponjfkeagaa.Lat
namespace Go.Proofs.Yteopponjfkeagaa.Lat
open Go.RowKit Go.Maps Go.Proofs.YteopponjfkeagaaW.PrintWords Go.Proofs.YteopponjfkeagaaW.PrintLast Go.Proofs.YteopponjfkeagaaW.PrintMore
set_option linter.unusedVariables false
set_option linter.unusedSimpArgs false

/-- the one of some to which all flow -/
def greatestF (T : Int → Int → Bool) (l : List Int) : Int := (l.find? fun x => l.all fun y => T y x).getD (-1)
theorem take_all (p : Int → Bool) (l : List Int) (j : Nat) (h : j < l.length) : (l.take (j + 1)).all p = ((l.take j).all p && p (rd l j)) := by
  rw [List.take_succ_eq_append_getElem h, List.all_append]
  have : rd l (j : Int) = l[j] := by unfold rd; rw [Int.toNat_natCast, List.getD_eq_getElem?_getD, List.getElem?_eq_getElem h]; rfl
  rw [this]
  simp
theorem rd_get (l : List Int) (j : Nat) (h : j < l.length) : rd l (j : Int) = l[j] := by
  unfold rd; rw [Int.toNat_natCast, List.getD_eq_getElem?_getD, List.getElem?_eq_getElem h]; rfl
theorem rd_mem (l : List Int) (j : Nat) (h : j < l.length) : rd l (j : Int) ∈ l := by rw [rd_get l j h]; exact List.getElem_mem h
theorem greatest_at (T : Int → Int → Bool) (l : List Int) (i : Nat) (h : i < l.length) (hA : ∀ j : Nat, j < i → l.all (fun y => T y (rd l j)) = false) (hi : l.all (fun y => T y (rd l i)) = true) : greatestF T l = rd l i := by
  have : l.find? (fun x => l.all fun y => T y x) = some l[i] := by
    rw [List.find?_eq_some_iff_getElem]
    rw [rd_get l i h] at hi
    exact ⟨hi, i, h, rfl, fun j hj => by have := hA j hj; rw [rd_get l j (by omega)] at this; rw [this]; rfl⟩
  unfold greatestF
  rw [this, rd_get l i h]
  rfl
theorem greatest_none (T : Int → Int → Bool) (l : List Int) (hA : ∀ j : Nat, j < l.length → l.all (fun y => T y (rd l j)) = false) : greatestF T l = -1 := by
  have : l.find? (fun x => l.all fun y => T y x) = none := by
    rw [List.find?_eq_none]
    intro x hx
    obtain ⟨j, hj, rfl⟩ := List.getElem_of_mem hx
    have := hA j hj
    rw [rd_get l j hj] at this
    rw [this]
    decide
  unfold greatestF
  rw [this]
  rfl
set_option maxHeartbeats 2000000 in
theorem greatest_calls (k : Nat) (first caps : Array Value) (hk : ∀ args W, (callFunc k args).run Try.prog W = .ok (.enter k args) W) {A : Option Addr} {c : Nat} {l : List Int} {w : World} (hr : Kd.C (Kd.int .i64) w A l.length l) (hc : l.length ≤ c) (T : Int → Int → Bool)
    (hT : ∀ W, Below w.heap.size w W → ∀ y x : Int, y ∈ l → x ∈ l → Calls Try.prog k (first ++ (#[.int .i64 y, .int .i64 x] ++ caps)) W fun e w' => e = .returned (.bool (T y x)) ∧ Below W.heap.size W w') :
    Calls Try.prog 76 #[.slice A l.length c, .func (Fn.func k) first caps] w fun e w' => e = .returned (.int .i64 (greatestF T l)) ∧ Below w.heap.size w w' := by
  have HR := Aside0.mk hr
  have HB := Aside0.mk (Below.refl w.heap.size w)
  have HM : l.length ≤ 9223372036854775807 := Kd.C_max hr
  clear hr
  go_enter Try.func76, Try.ntmps76
  go_wp2_with fail
  go_loopw [12] (fun x wr => ∃ i : Nat, x = .int .i64 (i : Int) ∧ i ≤ l.length ∧ Aside0 (∀ j, j < i → l.all (fun y => T y (rd l j)) = false) ∧ Aside0 (Below w.heap.size w wr)) (fun x _ => l.length - (intOf x).toNat)
  case atStart => exact ⟨0, rfl, Nat.zero_le _, ⟨fun j h => absurd h (by omega)⟩, HB⟩
  case round =>
    clear HB
    obtain ⟨i, rfl, hi, HA, HB⟩ := hrel
    by_cases hx : (i : Int) < l.length
    · obtain ⟨ad, ea, hcell⟩ := Kd.at_int HR.out i (by omega) hx
      cases ea
      replace hcell := (HB.out.cell (World.block_lt_of_cell? w _ hcell)).trans hcell
      rw [Int.toNat_natCast] at hcell
      go_wp2_with fail
      go_loopw [7, 18] (fun al x wr' => ∃ j : Nat, x = .int .i64 (j : Int) ∧ j ≤ l.length ∧ al = .bool ((l.take j).all fun y => T y (rd l i)) ∧ Aside0 (Below w.heap.size w wr')) (fun _ x _ => l.length - (intOf x).toNat)
      case atStart => exact ⟨0, rfl, Nat.zero_le _, rfl, HB⟩
      case round =>
        clear HB hcell
        obtain ⟨j, rfl, hj, rfl, HB⟩ := hrel
        by_cases hy : (j : Int) < l.length
        · obtain ⟨ad2, ea2, hcell⟩ := Kd.at_int HR.out j (by omega) hy
          cases ea2
          replace hcell := (HB.out.cell (World.block_lt_of_cell? w _ hcell)).trans hcell
          rw [Int.toNat_natCast] at hcell
          cases hall : (l.take j).all fun y => T y (rd l i)
          · go_wp2_with fail
            exact ⟨⟨j + 1, rfl, by omega, by rw [take_all _ _ _ (by omega), hall]; rfl, HB⟩, by simp [intOf]; omega⟩
          · go_wp2_with fail
            refine (hT _ HB.out _ _ (rd_mem l j (by omega)) (rd_mem l i (by omega))).mono ?_
            rintro e w2 ⟨rfl, hb⟩
            have HB2 := Aside0.mk (below_step HB.out hb)
            clear hb
            go_wp2_with fail
            exact ⟨⟨j + 1, rfl, by omega, by rw [take_all _ _ _ (by omega), hall]; simp, HB2⟩, by simp [intOf]; omega⟩
        · obtain rfl : j = l.length := by omega
          rw [List.take_length]
          cases hall : l.all fun y => T y (rd l i)
          · go_wp2_with fail
            exact ⟨⟨i + 1, rfl, by omega, ⟨step_all HA.out hall⟩, HB⟩, by simp [intOf]; omega⟩
          · go_wp2_with fail
            go_ret
            exact ⟨by rw [greatest_at T l i (by omega) HA.out hall]; rfl, HB.out⟩
    · obtain rfl : i = l.length := by omega
      go_wp2_with fail
      go_ret
      exact ⟨by rw [greatest_none T l HA.out]; rfl, HB.out⟩
end Go.Proofs.Yteopponjfkeagaa.Lat
namespace Go.Proofs.Yteopponjfkeagaa.Lat
open Go.RowKit Go.Maps Go.Proofs.YteopponjfkeagaaW.PrintWords Go.Proofs.YteopponjfkeagaaW.PrintLast Go.Proofs.YteopponjfkeagaaW.PrintMore
set_option linter.unusedVariables false
set_option linter.unusedSimpArgs false

set_option maxHeartbeats 2000000 in
theorem bounds_calls (k : Nat) (first caps : Array Value) (hk : ∀ args W, (callFunc k args).run Try.prog W = .ok (.enter k args) W) {g n : Nat} {F : Nat → Bool} {jm mm : Nat} {bot top : Int} {w : World} (hg : w.heap[g]? = some (.cells (latC n F jm mm bot top) 79 (0, 0))) (hn : n ≤ 6) (a b : Int) (T : Int → Int → Bool)
    (hT : ∀ W, Below w.heap.size w W → ∀ (y : Int) (i : Nat), y = a ∨ y = b → i < n → Calls Try.prog k (first ++ (#[.int .i64 y, .int .i64 i] ++ caps)) W fun e w' => e = .returned (.bool (T y i)) ∧ Below W.heap.size W w') :
    Calls Try.prog 77 #[P g, pairV a b, .func (Fn.func k) first caps] w fun e w' => ∃ u : Value, e = .returned u ∧ Kd.R (Kd.int .i64) 3 w' w.heap.size (fun _ => True) u (pick (fun x => T a x && T b x) n) ∧ Below w.heap.size w w' := by
  have HP := Aside0.mk (blk_new w (.cells #[.int .i64 a, .int .i64 b] 82))
  have HB := Aside0.mk (below_alloc (Below.refl w.heap.size w) (.cells #[.int .i64 a, .int .i64 b] 82))
  have c0 : w.cell? ⟨g, 0, none⟩ = some (.int .i64 n) := (blk_cell hg 0).trans rfl
  have lt : g < w.heap.size := blk_lt hg
  have hne : g ≠ w.heap.size := by omega
  go_enter Try.func77, Try.ntmps77
  go_wp2_with fail
  generalize w.alloc (.cells #[.int .i64 a, .int .i64 b] 82) = W0 at *
  go_loopw [7, 13] (fun o x wr => ∃ i : Nat, x = .int .i64 (i : Int) ∧ i ≤ n ∧ Aside0 (Kd.R (Kd.int .i64) 3 wr w.heap.size (fun q => q ≠ w.heap.size) o (pick (fun x => T a x && T b x) i)) ∧ Aside0 (wr.heap[w.heap.size]? = some (.cells #[.int .i64 a, .int .i64 b] 82 (0, 0))) ∧ Aside0 (Below w.heap.size w wr)) (fun _ x _ => n - (intOf x).toNat)
  case atStart => exact ⟨0, rfl, Nat.zero_le _, ⟨by rw [show pick (fun x => T a x && T b x) 0 = [] from rfl]; exact Kd.R_nil _ _ _ _ _⟩, HP, HB⟩
  case round =>
    clear HB HP
    obtain ⟨i, rfl, hi, HR, HP, HB⟩ := hrel
    have p0 : wr.cell? ⟨w.heap.size, 0, none⟩ = some (.int .i64 a) := (blk_cell HP.out 0).trans rfl
    have p1 : wr.cell? ⟨w.heap.size, 1, none⟩ = some (.int .i64 b) := (blk_cell HP.out 1).trans rfl
    by_cases hx : (i : Int) < n
    · go_wp2_with fail
      refine (hT _ HB.out a i (.inl rfl) (by omega)).mono ?_
      rintro e w2 ⟨rfl, hb⟩
      have HB2 := Aside0.mk (below_step HB.out hb)
      have HR2 := Aside0.mk (Kd.R_below HR.out hb)
      have HP2 := Aside0.mk (blk_below HP.out hb)
      clear HB HR HP hb p0 p1
      have q1 : w2.cell? ⟨w.heap.size, 1, none⟩ = some (.int .i64 b) := (blk_cell HP2.out 1).trans rfl
      cases ht : T a i
      · go_wp2_with fail
        exact ⟨⟨i + 1, rfl, by omega, ⟨by rw [pick_succ, ht]; exact HR2.out⟩, HP2, HB2⟩, by simp [intOf]; omega⟩
      · go_wp2_with fail
        refine (hT _ HB2.out b i (.inr rfl) (by omega)).mono ?_
        rintro e w3 ⟨rfl, hb⟩
        have HB3 := Aside0.mk (below_step HB2.out hb)
        have HR3 := Aside0.mk (Kd.R_below HR2.out hb)
        have HP3 := Aside0.mk (blk_below HP2.out hb)
        clear HB2 HR2 HP2 hb q1
        cases ht2 : T b i
        · go_wp2_with fail
          exact ⟨⟨i + 1, rfl, by omega, ⟨by rw [pick_succ, ht, ht2]; exact HR3.out⟩, HP3, HB3⟩, by simp [intOf]; omega⟩
        · have hl := pick_length (fun x => T a x && T b x) i
          have hsz := below_size HB3.out
          go_wp2_with (first | ((with_reducible refine gate_builtin (b := .append) (xs := #[.tmp 28, .tmp 30]) rfl ?_); at_builtin; refine Kd.R_append (Kd.int .i64) (w0 := w) w.heap.size rfl (.tmp 28) (.tmp 30) 39 3 (.int .i64 0) 8 rfl Try.underlying39 info_int rfl (by decide) (by omega) u7 (pick (fun x => T a x && T b x) i) (i : Int) [.int .i64 (i : Int)] (fun q => q ≠ w.heap.size) (fun _ => False) rfl rfl ?aP (fun _ hk => hk.elim) ?aF ?aO ?aB ?aS ?aL ?_; (case aP => exact rfl); (case aB => exact HB3.out); (case aF => exact (fun q hq => by have := blk_lt HP3.out; omega)); (case aO => exact HR3.out); (case aS => exact below_size HB3.out); (case aL => omega); intro v163 w11 ho hb hg2 hat))
          have HP4 := Aside0.mk (hg2.block w.heap.size (blk_lt HP3.out) (fun e => (HR3.out.1 _ e.symm) rfl) |>.trans HP3.out)
          exact ⟨⟨i + 1, rfl, by omega, ⟨by rw [pick_succ, if_pos (by rw [ht, ht2]; rfl)]; exact ho⟩, HP4, ⟨hb⟩⟩, by simp [intOf]; omega⟩
    · obtain rfl : i = n := by omega
      go_wp2_with fail
      go_ret
      exact ⟨_, rfl, Kd.R_mono HR.out (fun _ _ => trivial), HB.out⟩
end Go.Proofs.Yteopponjfkeagaa.Lat
namespace Go.Proofs.Yteopponjfkeagaa.Lat
open Go.RowKit Go.Maps Go.Proofs.YteopponjfkeagaaW.PrintWords Go.Proofs.YteopponjfkeagaaW.PrintLast Go.Proofs.YteopponjfkeagaaW.PrintMore
set_option linter.unusedVariables false
set_option linter.unusedSimpArgs false

/-- all blocks of w but mb are as they were -/
def Like (mb : Nat) (w W : World) : Prop := w.heap.size ≤ W.heap.size ∧ ∀ i, i < w.heap.size → i ≠ mb → W.heap[i]? = w.heap[i]?
theorem Like.refl (mb : Nat) (w : World) : Like mb w w := ⟨Nat.le_refl _, fun _ _ _ => rfl⟩
theorem Like.blk {mb g : Nat} {w W : World} {o : Obj} (h : Like mb w W) (hg : w.heap[g]? = some o) (hne : g ≠ mb) : W.heap[g]? = some o := (h.2 g (blk_lt hg) hne).trans hg
theorem Like.below {mb : Nat} {w W W' : World} (h : Like mb w W) (hb : Below W.heap.size W W') : Like mb w W' := ⟨Nat.le_trans h.1 hb.size, fun i hi hne => (hb.block i (Nat.lt_of_lt_of_le hi h.1)).trans (h.2 i hi hne)⟩
theorem fill1_calls (k : Nat) (first caps : Array Value) (hk : ∀ args W, (callFunc k args).run Try.prog W = .ok (.enter k args) W) (fb : Nat) (T : Int → Int → Bool) {w : World} (hf : w.heap[fb]? = some (.cells #[.func (Fn.func k) first caps] 32 (0, 0))) (a b : Int)
    (hT : Calls Try.prog k (first ++ (#[.int .i64 b, .int .i64 a] ++ caps)) w fun e w' => e = .returned (.bool (T b a)) ∧ Below w.heap.size w w') :
    Calls Try.prog 75 #[.int .i64 a, .int .i64 b, .pointer (some ⟨fb, 0, none⟩)] w fun e w' => e = .returned (.bool (T b a)) ∧ Below w.heap.size w w' := by
  have c0 : w.cell? ⟨fb, 0, none⟩ = some (.func (Fn.func k) first caps) := (blk_cell hf 0).trans rfl
  clear hf
  go_enter Try.func75, Try.ntmps75
  go_wp2_with fail
  refine hT.mono ?_
  rintro e w1 ⟨rfl, hb⟩
  go_wp2_with fail
  go_ret
  exact ⟨rfl, hb⟩
def G (n : Nat) (T : Int → Int → Bool) (a b : Int) : Int := greatestF (fun y x => T x y) (pick (fun x => T a x && T b x) n)
def J (n : Nat) (T : Int → Int → Bool) (a b : Nat) (i j : Int) : Int := if 0 ≤ i ∧ 0 ≤ j ∧ j < n ∧ (i < a ∨ (i = a ∧ j < b)) then G n T i j else 0
theorem J_start (n : Nat) (T : Int → Int → Bool) : J n T 0 0 = fun _ _ => 0 := by
  funext i j
  unfold J
  rw [if_neg (by omega)]
theorem J_row (n : Nat) (T : Int → Int → Bool) (a : Nat) : J n T a n = J n T (a + 1) 0 := by
  funext i j
  unfold J
  by_cases h : 0 ≤ i ∧ 0 ≤ j ∧ j < (n : Int) ∧ (i < (a : Int) ∨ (i = (a : Int) ∧ j < (n : Int)))
  · rw [if_pos h, if_pos (by omega)]
  · rw [if_neg h, if_neg (by omega)]
theorem J_put (n : Nat) (T : Int → Int → Bool) (a b : Nat) (hb : b < n) : (fun i j => if i = (a : Int) ∧ j = (b : Int) then G n T a b else J n T a b i j) = J n T a (b + 1) := by
  funext i j
  unfold J
  by_cases h : i = (a : Int) ∧ j = (b : Int)
  · obtain ⟨rfl, rfl⟩ := h
    rw [if_pos ⟨rfl, rfl⟩, if_pos (by omega)]
  · rw [if_neg h]
    by_cases h2 : 0 ≤ i ∧ 0 ≤ j ∧ j < (n : Int) ∧ (i < (a : Int) ∨ (i = (a : Int) ∧ j < (b : Int)))
    · rw [if_pos h2, if_pos (by omega)]
    · rw [if_neg h2, if_neg (by omega)]
theorem Tab.mono {w : World} {b m m' : Nat} {J : Int → Int → Int} (h : Tab w b m J) (hm : m ≤ m') : Tab w b m' J := by
  obtain ⟨D, ho, hi, hJ⟩ := h
  exact ⟨D, ho.mono hm, hi, hJ⟩
theorem pick_range {T : Int → Bool} {n : Nat} {x : Int} (h : x ∈ pick T n) : 0 ≤ x ∧ x < n := by
  unfold pick at h
  obtain ⟨i, hi, rfl⟩ := List.mem_map.1 h
  have := List.mem_range.1 (List.mem_filter.1 hi).1
  omega
theorem G_range {n : Nat} {T : Int → Int → Bool} {a b : Int} (h : G n T a b ≠ -1) : 0 ≤ G n T a b ∧ G n T a b < n := by
  unfold G greatestF at h ⊢
  cases hf : (pick (fun x => T a x && T b x) n).find? (fun x => (pick (fun x => T a x && T b x) n).all fun y => T x y) with
  | none => rw [hf] at h; exact absurd rfl h
  | some x => exact pick_range (List.mem_of_find?_eq_some hf)
theorem rows_all {p : Nat → Nat → Prop} {n a : Nat} (h : ∀ i j, i < a → j < n → p i j) (h2 : ∀ j, j < n → p a j) : ∀ i j, i < a + 1 → j < n → p i j := fun i j hi hj => by
  rcases Nat.lt_or_ge i a with h1 | h1
  · exact h i j h1 hj
  · obtain rfl : i = a := by omega
    exact h2 j hj
set_option maxHeartbeats 4000000 in
theorem fill_calls (B : Nat) (w0 : World) (k : Nat) (first caps : Array Value) (hk : ∀ args W, (callFunc k args).run Try.prog W = .ok (.enter k args) W) {g n : Nat} {F : Nat → Bool} {jm mm : Nat} {bot top : Int} {w : World} (hg : w.heap[g]? = some (.cells (latC n F jm mm bot top) 79 (0, 0))) (hn : n ≤ 6) (mb : Nat) (hgm : g ≠ mb) (T : Int → Int → Bool)
    (hB : Below B w0 w) (hBw : B ≤ w.heap.size) (hBm : B ≤ mb) (hT : ∀ W, Like mb w W → ∀ y x : Int, Calls Try.prog k (first ++ (#[.int .i64 y, .int .i64 x] ++ caps)) W fun e w' => e = .returned (.bool (T y x)) ∧ Below W.heap.size W w') (hM : Tab w mb 0 (fun _ _ => 0)) :
    Calls Try.prog 61 #[P g, .map (some mb), .func (Fn.func k) first caps] w fun e w' => Below B w0 w' ∧ Like mb w w' ∧ ((e = .returned (.bool true) ∧ (∀ i j : Nat, i < n → j < n → G n T i j ≠ -1) ∧ Tab w' mb 36 (J n T n 0)) ∨ (e = .returned (.bool false) ∧ ∃ i j : Nat, i < n ∧ j < n ∧ G n T i j = -1)) := by
  have hmf : ∀ (fn : Fn) (first cap : Array Value) (w : World), (Instr.makeFunc fn first cap).run Try.prog w = .ok (.func fn first cap) w := fun _ _ _ _ => rfl
  have HG := Aside0.mk hg
  have c0 : w.cell? ⟨g, 0, none⟩ = some (.int .i64 n) := (blk_cell hg 0).trans rfl
  have lt : g < w.heap.size := blk_lt hg
  have hne : g ≠ w.heap.size := by omega
  go_enter Try.func61, Try.ntmps61
  go_wp2_with fail
  have HF := Aside0.mk (blk_new w (.cells #[.func (Fn.func k) first caps] 32))
  have HB := Aside0.mk (hB.alloc hBw (.cells #[.func (Fn.func k) first caps] 32))
  have HL := Aside0.mk ((Like.refl mb w).below (below_alloc (Below.refl _ _) (.cells #[.func (Fn.func k) first caps] 32)))
  have HM := Aside0.mk (hM.later (below_alloc (Below.refl _ _) (.cells #[.func (Fn.func k) first caps] 32)))
  generalize w.alloc (.cells #[.func (Fn.func k) first caps] 32) = W1 at *
  clear hM hB hg
  go_loopw [17] (fun x wr => ∃ a : Nat, x = .int .i64 (a : Int) ∧ a ≤ n ∧ Aside0 (∀ i j : Nat, i < a → j < n → G n T i j ≠ -1) ∧ Aside0 (Tab wr mb (6 * a) (J n T a 0)) ∧ Aside0 (wr.heap[w.heap.size]? = some (.cells #[.func (Fn.func k) first caps] 32 (0, 0))) ∧ Aside0 (Like mb w wr) ∧ Aside0 (Below B w0 wr)) (fun x _ => n - (intOf x).toNat)
  case atStart => exact ⟨0, rfl, Nat.zero_le _, ⟨fun i j h => absurd h (by omega)⟩, ⟨by rw [J_start]; exact HM.out⟩, HF, HL, HB⟩
  case round =>
    clear HF HB HL HM
    obtain ⟨a, rfl, ha, HA, HM, HF, HL, HB⟩ := hrel
    by_cases hx : (a : Int) < n
    · have d0 : wr.cell? ⟨g, 0, none⟩ = some (.int .i64 n) := (blk_cell (HL.out.blk HG.out hgm) 0).trans rfl
      go_wp2_with fail
      go_loopw [24] (fun x wr' => ∃ b : Nat, x = .int .i64 (b : Int) ∧ b ≤ n ∧ Aside0 (∀ j : Nat, j < b → G n T a j ≠ -1) ∧ Aside0 (Tab wr' mb (6 * a + b) (J n T a b)) ∧ Aside0 (wr'.heap[w.heap.size]? = some (.cells #[.func (Fn.func k) first caps] 32 (0, 0))) ∧ Aside0 (Like mb w wr') ∧ Aside0 (Below B w0 wr')) (fun x _ => n - (intOf x).toNat)
      case atStart => exact ⟨0, rfl, Nat.zero_le _, ⟨fun j h => absurd h (by omega)⟩, HM, HF, HL, HB⟩
      case round =>
        clear HF HB HL HM d0
        obtain ⟨b, rfl, hb, HBB, HM, HF, HL, HB⟩ := hrel
        by_cases hy : (b : Int) < n
        · have HP := Aside0.mk (blk_new wr (.cells #[.int .i64 (a : Int), .int .i64 (b : Int)] 82))
          have hbel := below_alloc (Below.refl wr.heap.size wr) (.cells #[.int .i64 (a : Int), .int .i64 (b : Int)] 82)
          have HF2 := Aside0.mk (blk_below HF.out hbel)
          have HL2 := Aside0.mk (HL.out.below hbel)
          have HM2 := Aside0.mk (HM.out.later hbel)
          have HB2 := Aside0.mk (HB.out.alloc (Nat.le_trans hBw HL.out.1) (.cells #[.int .i64 (a : Int), .int .i64 (b : Int)] 82))
          have hfn : w.heap.size ≠ wr.heap.size := by have := blk_lt HF.out; omega
          have f0 : wr.cell? ⟨w.heap.size, 0, none⟩ = some (.func (Fn.func k) first caps) := (blk_cell HF.out 0).trans rfl
          have fl := blk_lt HF.out
          clear hbel HF HL HM HB
          go_wp2_with fail
          refine (bounds_calls k first caps hk (HL2.out.blk HG.out hgm) hn a b T (fun W hW y i _ hi => hT W (HL2.out.below hW) y i)).mono ?_
          rintro e w2 ⟨u, rfl, hR, hb2⟩
          obtain ⟨A, c, rfl, hc, hC⟩ := Kd.R_reads hR
          have HP3 := Aside0.mk (blk_below HP.out hb2)
          have HF3 := Aside0.mk (blk_below HF2.out hb2)
          have HL3 := Aside0.mk (HL2.out.below hb2)
          have HM3 := Aside0.mk (HM2.out.later hb2)
          have HB3 := Aside0.mk (HB2.out.trans (hb2.mono (Nat.le_trans hBw HL2.out.1)))
          clear hR hb2 HP HF2 HL2 HM2 HB2
          go_wp2_with fail
          refine (greatest_calls 75 #[] #[.pointer (some ⟨w.heap.size, 0, none⟩)] (fun _ _ => enters_ Try.func75 (by kernel_rfl) rfl _ _) hC hc (fun y x => T x y) (fun W hW y x _ _ => fill1_calls k first caps hk w.heap.size T (blk_below HF3.out hW) y x (hT W (HL3.out.below hW) x y))).mono ?_
          rw [show greatestF (fun y x => T x y) (pick (fun x => T a x && T b x) n) = G n T a b from rfl]
          rintro e w3 ⟨rfl, hb3⟩
          have HP4 := Aside0.mk (blk_below HP3.out hb3)
          have HF4 := Aside0.mk (blk_below HF3.out hb3)
          have HL4 := Aside0.mk (HL3.out.below hb3)
          have HM4 := Aside0.mk (HM3.out.later hb3)
          have HB4 := Aside0.mk (HB3.out.trans (hb3.mono (Nat.le_trans hBw HL3.out.1)))
          clear hb3 hC HP3 HF3 HL3 HM3 HB3
          have p0 : w3.cell? ⟨wr.heap.size, 0, none⟩ = some (.int .i64 (a : Int)) := (blk_cell HP4.out 0).trans rfl
          have p1 : w3.cell? ⟨wr.heap.size, 1, none⟩ = some (.int .i64 (b : Int)) := (blk_cell HP4.out 1).trans rfl
          by_cases hG : G n T a b = -1
          · rw [hG]
            go_wp2_with fail
            go_ret
            exact ⟨HB4.out, HL4.out, .inr ⟨rfl, a, b, by omega, by omega, hG⟩⟩
          · have HG0 := Aside0.mk hG
            obtain ⟨x, hxx⟩ : ∃ x, G n T a b = x := ⟨_, rfl⟩
            rw [hxx] at hG ⊢
            have HX := Aside0.mk hxx
            clear hxx
            have hne1 : (x == -1) = false := by simpa using hG
            have hr := G_range HG0.out
            rw [HX.out] at hr
            obtain ⟨w4, hrun, hM5, hg5⟩ := HM4.out.put (by omega) (okI_small (a := (a : Int)) (by omega) (by omega)) (okI_small (a := (b : Int)) (by omega) (by omega)) (okI_small (a := x) (by omega) (by omega))
            rw [← HX.out, J_put n T a b (by omega)] at hM5
            have HM5 := Aside0.mk hM5
            have hfm : w.heap.size ≠ mb := fun e => by
              subst e
              obtain ⟨D, ⟨es, clock, hk1, _⟩, _⟩ := HM4.out
              rw [HF4.out] at hk1
              exact absurd hk1 (by simp)
            have HF5 := Aside0.mk ((hg5.block w.heap.size (blk_lt HF4.out) (fun e => hfm (Option.some.inj e))).trans HF4.out)
            have HL5 : Aside0 (Like mb w w4) := ⟨⟨Nat.le_trans HL4.out.1 hg5.size, fun i hi hne => (hg5.block i (Nat.lt_of_lt_of_le hi HL4.out.1) (fun e => hne (Option.some.inj e))).trans (HL4.out.2 i hi hne)⟩⟩
            have HB5 := Aside0.mk (HB4.out.grown hg5 (Nat.le_trans hBw HL4.out.1) (fun q e => by cases e; exact hBm))
            clear hM5 hg5 HM4 HL4 HB4 HF4 HP4
            go_wp2_with fail
            exact ⟨⟨b + 1, rfl, by omega, ⟨step_all HBB.out HG0.out⟩, HM5, HF5, HL5, HB5⟩, by simp [intOf]; omega⟩
        · obtain rfl : b = n := by omega
          go_wp2_with fail
          exact ⟨⟨a + 1, rfl, by omega, ⟨rows_all HA.out HBB.out⟩, ⟨by rw [← J_row]; exact HM.out.mono (by omega)⟩, HF, HL, HB⟩, by simp [intOf]; omega⟩
    · obtain rfl : a = n := by omega
      go_wp2_with fail
      go_ret
      exact ⟨HB.out, HL.out, .inl ⟨rfl, HA.out, HM.out.mono (by omega)⟩⟩
end Go.Proofs.Yteopponjfkeagaa.Lat
