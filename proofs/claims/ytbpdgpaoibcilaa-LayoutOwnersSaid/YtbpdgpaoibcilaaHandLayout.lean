import Derived.Test.YtbpdgpaoibcilaaProg
import Derived.Below
import Derived.Deep.Draws
import Derived.Deep.AppendLies
import Derived.Maps.AppendAt
import Derived.OwnWalk
import Derived.Laws.BytesArg
import Derived.Laws.MakeOwn
import Derived.Laws.OwnMore
import Derived.Deep.OwnRows
import Derived.Tactics
import Derived.Lib.ConvBytes
import Derived.Laws.Slices
import Derived.WalkKit
import Derived.KernelRfl
import Derived.RowKit3
import Derived.Deep.LoopGhost
import Derived.Deep.QuietTactic
import Derived.BigQuiet
import Derived.WideLaws
import Derived.Deep.DeepCutAuto
import Derived.Deep.CutBlock
import Derived.Deep.RegionHeld3
import Derived.Laws.Rows
import Derived.Lib.AppendStr
import Derived.ArgAppend
import Derived.Laws.IdiomCopy
import Derived.OrdersHeld
import Derived.Laws.BitsLemmas
import Derived.RowKit
import Derived.Outline
import Derived.Test.YtbpdgpaoibcilaaWWords
import Derived.Test.YtbpdgpaoibcilaaWLast
import Derived.Test.YtbpdgpaoibcilaaWTab
import Derived.Test.YtbpdgpaoibcilaaWFour
import Derived.Test.YtbpdgpaoibcilaaWQPut
import Derived.Test.YtbpdgpaoibcilaaWApart
import Derived.Test.YtbpdgpaoibcilaaWArr
import Derived.Test.YtbpdgpaoibcilaaWZeros
import Derived.Test.YtbpdgpaoibcilaaWFoot
import Derived.Test.YtbpdgpaoibcilaaWKept
import Derived.Test.YtbpdgpaoibcilaaWShare
import Derived.Test.YtbpdgpaoibcilaaWN
import Derived.Test.YtbpdgpaoibcilaaWFootNe
import Derived.Test.YtbpdgpaoibcilaaWAt
import Derived.Test.YtbpdgpaoibcilaaWEqStruct
import Derived.Test.YtbpdgpaoibcilaaWRepsOne
import Derived.Test.YtbpdgpaoibcilaaWInv
import Derived.Test.YtbpdgpaoibcilaaWInvWords
import Derived.Test.YtbpdgpaoibcilaaWGuard
import Derived.Test.YtbpdgpaoibcilaaWNEv
import Derived.Test.YtbpdgpaoibcilaaWMore
namespace Go.Proofs.Ytbpdgpaoibcilaa.HandLayout
open Go.RowKit Go.Proofs.YtbpdgpaoibcilaaW.PrintWords Go.Proofs.YtbpdgpaoibcilaaW.PrintLast Go.Proofs.YtbpdgpaoibcilaaW.PrintMore
set_option linter.unusedVariables false

/-- where the extent of label i begins -/
def bg (segs : List Int) : Nat → Int
  | 0 => 0
  | i + 1 => bg segs i + 2 + 16 * rd segs i
def lst (segs : List Int) (i : Nat) : List Int := (List.range (i + 1)).map (bg segs)
theorem lst_length (segs : List Int) (i : Nat) : (lst segs i).length = i + 1 := by simp [lst]
theorem lst_snoc (segs : List Int) (i : Nat) : lst segs (i + 1) = lst segs i ++ [bg segs (i + 1)] := by simp [lst, List.range_succ]
/-- the cells of a layout -/
def layC (n : Int) (l : List Int) : Array Value := ((n :: (l ++ List.replicate (7 - l.length) 0)).map (Value.int .i64)).toArray
theorem layC_set (n : Int) (l : List Int) (x : Int) (h : l.length < 7) : (layC n l).setIfInBounds (1 + l.length) (.int .i64 x) = layC n (l ++ [x]) := by
  unfold layC
  apply Array.toList_inj.1
  have e : 7 - l.length = (7 - (l.length + 1)) + 1 := by omega
  simp only [List.length_append, List.length_cons, List.length_nil, Nat.zero_add]
  rw [e, List.replicate_succ, Nat.add_comm 1]
  simp [List.setIfInBounds_toArray, List.set_append_right]
theorem layC_0 (n : Int) (l : List Int) : (layC n l)[0]? = some (.int .i64 n) := by simp [layC]
theorem layC_get (n : Int) (l : List Int) (i : Nat) (h : i < l.length) : (layC n l)[1 + i]? = some (.int .i64 (l.getD i 0)) := by
  unfold layC
  rw [Nat.add_comm, List.getElem?_toArray, List.getElem?_map, List.getElem?_cons_succ, List.getElem?_append_left h, List.getElem?_eq_getElem h, List.getD_eq_getElem?_getD, List.getElem?_eq_getElem h]
  rfl
theorem layC_bg (n : Int) (segs : List Int) (m i : Nat) (h : i ≤ m) : (layC n (lst segs m))[1 + i]? = some (.int .i64 (bg segs i)) := by
  rw [layC_get _ _ _ (by rw [lst_length]; omega)]
  congr 2
  simp [lst, List.getD_eq_getElem?_getD, List.getElem?_map, List.getElem?_range (show i < m + 1 by omega)]
theorem layC_zero (n : Int) (l : List Int) (h : l.length < 7) : (layC n l)[1 + l.length]? = some (.int .i64 0) := by
  unfold layC
  have e : 7 - l.length = (7 - (l.length + 1)) + 1 := by omega
  rw [Nat.add_comm, List.getElem?_toArray, List.getElem?_map, List.getElem?_cons_succ, List.getElem?_append_right (Nat.le_refl _), e, List.replicate_succ]
  simp
/-- which numbers of segments are a layout -/
def Good (segs : List Int) : Prop := 1 ≤ segs.length ∧ segs.length ≤ 6 ∧ ∀ i : Nat, i < segs.length → 6 ≤ rd segs i ∧ rd segs i ≤ 64
def IsLay (w : World) (g : Nat) (segs : List Int) : Prop := w.heap[g]? = some (.cells (layC segs.length (lst segs segs.length)) 70 (0, 0))
theorem bg_range (segs : List Int) (n : Nat) (hn : n ≤ 6) (h : ∀ i : Nat, i < n → 6 ≤ rd segs i ∧ rd segs i ≤ 64) : 98 * (n : Int) ≤ bg segs n ∧ bg segs n ≤ 1026 * n := by
  induction n with
  | zero => simp [bg]
  | succ n ih =>
    have := ih (by omega) (fun i hi => h i (by omega))
    have := h n (by omega)
    simp only [bg]
    omega

set_option maxHeartbeats 2000000 in
theorem new_good (A : Option Addr) (c : Nat) (segs : List Int) (w : World) (hr : Kd.C (Kd.int .i64) w A segs.length segs) (hc : segs.length ≤ c) (hg : Good segs) :
    Calls Try.prog 14 #[.slice A segs.length c] w fun e w' => e = .returned (.tuple #[.pointer (some ⟨w.heap.size, 0, none⟩), .int .i64 0]) ∧ IsLay w' w.heap.size segs ∧ Below w.heap.size w w' := by
  have HR := Aside0.mk hr
  have HC := Aside0.mk hc
  clear hr hc
  obtain ⟨h1, h6, hall⟩ := hg
  have HA := Aside0.mk hall
  clear hall
  have b0 : ((segs.length : Int) == 0) = false := by rw [beq_eq_false_iff_ne]; omega
  have b1 : decide (6 < segs.length) = false := by simp; omega
  go_enter Try.func14, Try.ntmps14
  go_wp2
  go_loopw [21] (fun v wr => ∃ j : Nat, v = .int .i64 j ∧ j ≤ segs.length ∧ Aside0 (wr.heap[w.heap.size]? = some (.cells (layC segs.length (lst segs j)) 70 (0, 0))) ∧ Aside0 (Below w.heap.size w wr)) (fun v _ => 7 - (intOf v).toNat)
  case atStart => exact ⟨0, rfl, by omega, ⟨heap_alloc_new w _⟩, ⟨(Below.refl _ _).alloc (Nat.le_refl _) _⟩⟩
  case round =>
    obtain ⟨j, rfl, hj, HH, HB⟩ := hrel
    by_cases hlt : j < segs.length
    · obtain ⟨ad, e1, hx⟩ := Kd.at_int HR.out j (by omega) (by omega)
      cases e1
      rw [Int.toNat_natCast] at hx
      replace hx := (HB.out.cell (World.block_lt_of_cell? w _ hx)).trans hx
      obtain ⟨s6, s64⟩ := HA.out j hlt
      have hb := bg_range segs j (by omega) (fun i hi => HA.out i (by omega))
      have hb0 := hb.1
      have hb1 := hb.2
      clear hb
      have hc1 : wr.cell? ⟨w.heap.size, 1 + j, none⟩ = some (.int .i64 (bg segs j)) := (blk_cell HH.out _).trans (layC_bg _ segs j j (Nat.le_refl _))
      have hc2 : wr.cell? ⟨w.heap.size, 1 + (j + 1), none⟩ = some (.int .i64 0) := (blk_cell HH.out _).trans (by have := layC_zero segs.length (lst segs j) (by rw [lst_length]; omega); rwa [lst_length] at this)
      have hf1 : wr.frozen? ⟨w.heap.size, 1 + (j + 1), none⟩ = false := blk_frozen HH.out _
      go_wp2
      go_region
      go_wp2
      go_roundw
      case rel =>
        refine ⟨j + 1, rfl, by omega, ⟨?_⟩, ⟨below_drew (HB.out.setCell (by simp) _)⟩⟩
        rw [lst_snoc, ← layC_set _ _ _ (by rw [lst_length]; omega), lst_length]
        have := blk_set HH.out (1 + (j + 1)) (.int .i64 (bg segs (j + 1)))
        exact this
      case measure => simp [intOf]; omega
    · obtain rfl : j = segs.length := by omega
      go_wp2
      go_ret2
      exact ⟨rfl, HH.out, HB.out⟩
set_option maxHeartbeats 2000000 in
theorem new_bad (A : Option Addr) (c : Nat) (segs : List Int) (w : World) (hr : Kd.C (Kd.int .i64) w A segs.length segs) (hc : segs.length ≤ c) (hm : segs.length ≤ 9223372036854775807) (hg : ¬ Good segs) :
    Calls Try.prog 14 #[.slice A segs.length c] w fun e w' => e = .returned (.tuple #[.pointer none, .int .i64 1]) ∧ Below w.heap.size w w' := by
  have HR := Aside0.mk hr
  have HC := Aside0.mk hc
  clear hr hc
  by_cases h0 : segs.length = 0
  · have b0 : ((segs.length : Int) == 0) = true := by rw [beq_iff_eq]; omega
    clear h0
    go_enter Try.func14, Try.ntmps14
    go_wp2
    go_ret2
    exact ⟨rfl, Below.refl _ _⟩
  by_cases h6 : 6 < segs.length
  · have b0 : ((segs.length : Int) == 0) = false := by rw [beq_eq_false_iff_ne]; omega
    have b1 : decide (6 < segs.length) = true := by simp; omega
    go_enter Try.func14, Try.ntmps14
    go_wp2
    go_ret2
    exact ⟨rfl, Below.refl _ _⟩
  have hbad : Aside0 (¬ ∀ i : Nat, i < segs.length → 6 ≤ rd segs i ∧ rd segs i ≤ 64) := ⟨fun h => hg ⟨by omega, by omega, h⟩⟩
  clear hg
  have b0 : ((segs.length : Int) == 0) = false := by rw [beq_eq_false_iff_ne]; omega
  have b1 : decide (6 < segs.length) = false := by simp; omega
  go_enter Try.func14, Try.ntmps14
  go_wp2
  go_loopw [21] (fun v wr => ∃ j : Nat, v = .int .i64 j ∧ j ≤ segs.length ∧ Aside0 (∀ i : Nat, i < j → 6 ≤ rd segs i ∧ rd segs i ≤ 64) ∧ Aside0 (wr.heap[w.heap.size]? = some (.cells (layC segs.length (lst segs j)) 70 (0, 0))) ∧ Aside0 (Below w.heap.size w wr)) (fun v _ => 7 - (intOf v).toNat)
  case atStart => exact ⟨0, rfl, by omega, ⟨fun i hi => absurd hi (by omega)⟩, ⟨heap_alloc_new w _⟩, ⟨(Below.refl _ _).alloc (Nat.le_refl _) _⟩⟩
  case round =>
    obtain ⟨j, rfl, hj, HA, HH, HB⟩ := hrel
    by_cases hlt : j < segs.length
    · obtain ⟨ad, e1, hx⟩ := Kd.at_int HR.out j (by omega) (by omega)
      cases e1
      rw [Int.toNat_natCast] at hx
      replace hx := (HB.out.cell (World.block_lt_of_cell? w _ hx)).trans hx
      by_cases hs : 6 ≤ rd segs j ∧ rd segs j ≤ 64
      · obtain ⟨s6, s64⟩ := hs
        have hb := bg_range segs j (by omega) HA.out
        have hb0 := hb.1
        have hb1 := hb.2
        clear hb
        have hc1 : wr.cell? ⟨w.heap.size, 1 + j, none⟩ = some (.int .i64 (bg segs j)) := (blk_cell HH.out _).trans (layC_bg _ segs j j (Nat.le_refl _))
        have hc2 : wr.cell? ⟨w.heap.size, 1 + (j + 1), none⟩ = some (.int .i64 0) := (blk_cell HH.out _).trans (by have := layC_zero segs.length (lst segs j) (by rw [lst_length]; omega); rwa [lst_length] at this)
        have hf1 : wr.frozen? ⟨w.heap.size, 1 + (j + 1), none⟩ = false := blk_frozen HH.out _
        have HS : Aside0 (6 ≤ rd segs j ∧ rd segs j ≤ 64) := ⟨⟨s6, s64⟩⟩
        go_wp2
        go_region
        go_wp2
        go_roundw
        case rel =>
          refine ⟨j + 1, rfl, by omega, ⟨fun i hi => ?_⟩, ⟨?_⟩, ⟨below_drew (HB.out.setCell (by simp) _)⟩⟩
          · by_cases e : i = j
            · subst e; exact HS.out
            · exact HA.out i (by omega)
          rw [lst_snoc, ← layC_set _ _ _ (by rw [lst_length]; omega), lst_length]
          have := blk_set HH.out (1 + (j + 1)) (.int .i64 (bg segs (j + 1)))
          exact this
        case measure => simp [intOf]; omega
      · by_cases s6 : rd segs j < 6
        · clear hs
          go_wp2
          go_ret2
          exact ⟨rfl, HB.out⟩
        · have s64 : 64 < rd segs j := by omega
          clear hs
          go_wp2
          go_ret2
          exact ⟨rfl, HB.out⟩
    · exfalso
      obtain rfl : j = segs.length := by omega
      exact hbad.out HA.out

theorem lab_nil (w : World) : Calls Try.prog 16 #[.pointer none] w fun e w' => e = .returned (.int .i64 0) ∧ Drawn0 w w' := by
  go_enter Try.func16, Try.ntmps16
  go_wp2
  go_ret
  exact ⟨rfl, Drawn0.refl _⟩
theorem lab (g : Nat) (segs : List Int) (w : World) (h : IsLay w g segs) : Calls Try.prog 16 #[.pointer (some ⟨g, 0, none⟩)] w fun e w' => e = .returned (.int .i64 segs.length) ∧ Drawn0 w w' := by
  have hc : w.cell? ⟨g, 0, none⟩ = some (.int .i64 segs.length) := (blk_cell h _).trans (layC_0 _ _)
  clear h
  go_enter Try.func16, Try.ntmps16
  go_wp2
  go_ret
  exact ⟨rfl, Drawn0.refl _⟩
theorem sec_nil (w : World) : Calls Try.prog 17 #[.pointer none] w fun e w' => e = .returned (.int .i64 0) ∧ Drawn0 w w' := by
  go_enter Try.func17, Try.ntmps17
  go_wp2
  go_ret
  exact ⟨rfl, Drawn0.refl _⟩
theorem sec (g : Nat) (segs : List Int) (w : World) (h : IsLay w g segs) (h6 : segs.length ≤ 6) : Calls Try.prog 17 #[.pointer (some ⟨g, 0, none⟩)] w fun e w' => e = .returned (.int .i64 (bg segs segs.length)) ∧ Drawn0 w w' := by
  have hc : w.cell? ⟨g, 0, none⟩ = some (.int .i64 segs.length) := (blk_cell h _).trans (layC_0 _ _)
  have hc1 : w.cell? ⟨g, 1 + segs.length, none⟩ = some (.int .i64 (bg segs segs.length)) := (blk_cell h _).trans (layC_bg _ segs _ _ (Nat.le_refl _))
  clear h
  go_enter Try.func17, Try.ntmps17
  go_wp2
  go_quiet (fail)
  go_wp2
  go_ret
  exact ⟨rfl, ⟨_, rfl⟩⟩
theorem ext_nil (l : Int) (w : World) : Calls Try.prog 25 #[.pointer none, .int .i64 l] w fun e w' => e = .returned (.tuple #[.agg #[.int .i64 0, .int .i64 0], .int .i64 7]) ∧ Below w.heap.size w w' := by
  go_enter Try.func25, Try.ntmps25
  go_wp2
  exact bodyPost_ret (v := .tuple #[.agg #[.int .i64 0, .int .i64 0], .int .i64 7]) (by simp [results, Try.results25, go_sem]) rfl ⟨rfl, (Below.refl _ _).alloc (Nat.le_refl _) _⟩
theorem ext_bad (g : Nat) (segs : List Int) (l : Int) (w : World) (h : IsLay w g segs) (h6 : segs.length ≤ 6) (hl : l < 0 ∨ segs.length ≤ l) : Calls Try.prog 25 #[.pointer (some ⟨g, 0, none⟩), .int .i64 l] w fun e w' => e = .returned (.tuple #[.agg #[.int .i64 0, .int .i64 0], .int .i64 1]) ∧ Below w.heap.size w w' := by
  have hlt : g < w.heap.size := blk_lt h
  have hc : w.cell? ⟨g, 0, none⟩ = some (.int .i64 segs.length) := (blk_cell h _).trans (layC_0 _ _)
  clear h
  rcases hl with hl | hl
  · go_enter Try.func25, Try.ntmps25
    go_wp2
    exact bodyPost_ret (v := .tuple #[.agg #[.int .i64 0, .int .i64 0], .int .i64 1]) (by simp [results, Try.results25, go_sem]) rfl ⟨rfl, (Below.refl _ _).alloc (Nat.le_refl _) _⟩
  · go_enter Try.func25, Try.ntmps25
    go_wp2
    exact bodyPost_ret (v := .tuple #[.agg #[.int .i64 0, .int .i64 0], .int .i64 1]) (by simp [results, Try.results25, go_sem]) rfl ⟨rfl, (Below.refl _ _).alloc (Nat.le_refl _) _⟩
set_option maxHeartbeats 1000000 in
theorem ext_good (g : Nat) (segs : List Int) (l : Nat) (w : World) (h : IsLay w g segs) (hg : Good segs) (hl : l < segs.length) : Calls Try.prog 25 #[.pointer (some ⟨g, 0, none⟩), .int .i64 l] w fun e w' => e = .returned (.tuple #[.agg #[.int .i64 (bg segs l), .int .i64 (2 + 16 * rd segs l)], .int .i64 0]) ∧ Below w.heap.size w w' := by
  obtain ⟨h1, h6, hall⟩ := hg
  have hlt : g < w.heap.size := blk_lt h
  have hc : w.cell? ⟨g, 0, none⟩ = some (.int .i64 segs.length) := (blk_cell h _).trans (layC_0 _ _)
  have hc1 : w.cell? ⟨g, 1 + l, none⟩ = some (.int .i64 (bg segs l)) := (blk_cell h _).trans (layC_bg _ segs _ _ (by omega))
  have hc2 : w.cell? ⟨g, 1 + (l + 1), none⟩ = some (.int .i64 (bg segs l + 2 + 16 * rd segs l)) := (blk_cell h _).trans (layC_bg _ segs _ (l + 1) (by omega))
  have hs := hall l hl
  have hb := bg_range segs l (by omega) (fun i hi => hall i (by omega))
  clear h hall
  have s1 := hs.1
  have s2 := hs.2
  have s3 := hb.1
  have s4 := hb.2
  clear hs hb
  go_enter Try.func25, Try.ntmps25
  go_wp2
  go_region
  go_wp2
  have e : bg segs l + 2 + 16 * rd segs l - bg segs l = 2 + 16 * rd segs l := by omega
  rw [e]
  exact bodyPost_ret (v := .tuple #[.agg #[.int .i64 (bg segs l), .int .i64 (2 + 16 * rd segs l)], .int .i64 0]) (by simp [results, Try.results25, go_sem]) rfl ⟨rfl, below_drew ((Below.refl _ _).alloc (Nat.le_refl _) _)⟩
theorem bg_mono (segs : List Int) (n : Nat) (h : ∀ i : Nat, i < n → 6 ≤ rd segs i ∧ rd segs i ≤ 64) (i : Nat) : ∀ d, i + d ≤ n → bg segs i ≤ bg segs (i + d) := by
  intro d
  induction d with
  | zero => intro _; exact Int.le_refl _
  | succ d ih =>
    intro hd
    have h1 := ih (by omega)
    have h2 := h (i + d) (by omega)
    show bg segs i ≤ bg segs (i + d) + 2 + 16 * rd segs ((i + d : Nat) : Int)
    omega
theorem own_nil (s : Int) (w : World) : Calls Try.prog 24 #[.pointer none, .int .i64 s] w fun e w' => e = .returned (.tuple #[.int .i64 0, .int .i64 7]) ∧ Drawn0 w w' := by
  go_enter Try.func24, Try.ntmps24
  go_wp2
  go_ret2
  exact ⟨rfl, Drawn0.refl _⟩
theorem own_bad (g : Nat) (segs : List Int) (s : Int) (w : World) (h : IsLay w g segs) (h6 : segs.length ≤ 6) (hs : s < 0 ∨ bg segs segs.length ≤ s) : Calls Try.prog 24 #[.pointer (some ⟨g, 0, none⟩), .int .i64 s] w fun e w' => e = .returned (.tuple #[.int .i64 0, .int .i64 20]) ∧ Drawn0 w w' := by
  by_cases hs0 : s < 0
  · clear hs
    go_enter Try.func24, Try.ntmps24
    go_wp2
    go_ret2
    exact ⟨rfl, Drawn0.refl _⟩
  · have hs1 : bg segs segs.length ≤ s := by omega
    have hs2 : 0 ≤ s := by omega
    clear hs hs0
    have H := Aside0.mk h
    clear h
    go_enter Try.func24, Try.ntmps24
    go_wp2_with (go_at_call 17; refine (sec g segs _ H.out h6).mono ?_; rintro e w' ⟨rfl, ⟨⟨nq, rfl⟩⟩⟩)
    go_ret2
    exact ⟨rfl, ⟨_, rfl⟩⟩
set_option maxHeartbeats 1000000 in
theorem own_good (g : Nat) (segs : List Int) (j : Nat) (s : Int) (w : World) (h : IsLay w g segs) (hg : Good segs) (hj : j < segs.length) (hs0 : bg segs j ≤ s) (hs1 : s < bg segs (j + 1)) : Calls Try.prog 24 #[.pointer (some ⟨g, 0, none⟩), .int .i64 s] w fun e w' => e = .returned (.tuple #[.int .i64 j, .int .i64 0]) ∧ Drawn0 w w' := by
  have H := Aside0.mk h
  have HG := Aside0.mk hg
  have h6 := hg.2.1
  have hb := bg_range segs j (by omega) (fun i hi => hg.2.2 i (by omega))
  have hs2 : 0 ≤ s := by omega
  have hs3 : s < bg segs segs.length := by
    have := bg_mono segs segs.length hg.2.2 (j + 1) (segs.length - (j + 1)) (by omega)
    rw [show j + 1 + (segs.length - (j + 1)) = segs.length by omega] at this
    omega
  clear h hg hb
  go_enter Try.func24, Try.ntmps24
  go_wp2_with (go_at_call 17; refine (sec g segs _ H.out h6).mono ?_; rintro e w' ⟨rfl, ⟨⟨nq, rfl⟩⟩⟩)
  go_loop [6] (fun v => ∃ i : Nat, v = .int .i64 i ∧ i ≤ j) (fun v => 7 - (intOf v).toNat)
  case atStart => exact ⟨0, rfl, by omega⟩
  case round =>
    obtain ⟨i, rfl, hi⟩ := hrel
    have hc : w.cell? ⟨g, 1 + (i + 1), none⟩ = some (.int .i64 (bg segs (i + 1))) := (blk_cell H.out _).trans (layC_bg _ segs _ (i + 1) (by omega))
    by_cases hlt : i < j
    · have hle : bg segs (i + 1) ≤ s := by
        have := bg_mono segs segs.length HG.out.2.2 (i + 1) (j - (i + 1)) (by omega)
        rw [show i + 1 + (j - (i + 1)) = j by omega] at this
        omega
      go_wp2
      go_round
      case rel => exact ⟨i + 1, rfl, by omega⟩
      case measure => simp [intOf]; omega
    · obtain rfl : i = j := by omega
      go_wp2
      go_ret2
      exact ⟨rfl, ⟨_, rfl⟩⟩
end Go.Proofs.Ytbpdgpaoibcilaa.HandLayout
