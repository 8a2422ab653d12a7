import Derived.Test.YtohhlkabejangaaProg
import Derived.Below
import Derived.Deep.Draws
import Derived.Deep.AppendLies
import Derived.Maps.AppendAt
import Derived.OwnWalk
import Derived.Laws.BytesArg
import Derived.Laws.MakeOwn
import Derived.Laws.OwnMore
import Derived.Deep.OwnRows
import Derived.Tactics
import Derived.Lib.ConvBytes
import Derived.Laws.Slices
import Derived.WalkKit
import Derived.KernelRfl
import Derived.RowKit3
import Derived.Deep.LoopGhost
import Derived.Deep.QuietTactic
import Derived.BigQuiet
import Derived.WideLaws
import Derived.Deep.DeepCutAuto
import Derived.Deep.CutBlock
import Derived.Deep.RegionHeld3
import Derived.Laws.Rows
import Derived.Lib.AppendStr
import Derived.ArgAppend
import Derived.Laws.IdiomCopy
import Derived.OrdersHeld
import Derived.Laws.BitsLemmas
import Derived.RowKit
import Derived.Outline
import Derived.StillTailTactics
import Derived.Test.YtohhlkabejangaaUWWords
import Derived.Test.YtohhlkabejangaaUWLast
import Derived.Test.YtohhlkabejangaaUWTab
import Derived.Test.YtohhlkabejangaaUWApart
import Derived.Test.YtohhlkabejangaaUWKept
import Derived.Test.YtohhlkabejangaaUWShare
import Derived.Test.YtohhlkabejangaaUWEqStruct
import Derived.Test.YtohhlkabejangaaUWRepsOne
-- halved
import Derived.Test.YtohhlkabejangaaUWGuard
import Derived.Test.YtohhlkabejangaaUWMore
namespace Go.Proofs.Ytohhlkabejangaa.Hand
set_option linter.unusedVariables false
open Go.RowKit Go.Proofs.YtohhlkabejangaaW.PrintWords Go.Proofs.YtohhlkabejangaaW.PrintLast Go.Proofs.YtohhlkabejangaaW.PrintMore
open Go.Proofs.YtohhlkabejangaaW.PrintWords.Aside0 renaming mk → mkA
open List renaming setIfInBounds_toArray → zsI
def chainF : Nat → Int → List Int
 | 0, _ => []
 | k + 1, v => if v < 128 then [v] else (v % 128 + 128) :: chainF k (v / 128)
def u64top : Int := 18446744073709551616
def nums_Chain.f (a0 : Int) : Option ByteArray := if 0 ≤ a0 ∧ a0 < u64top then some (strOfNums (chainF 10 a0)) else none
theorem u64_fits (x : Int) (h0 : 0 ≤ x) (h1 : x < 18446744073709551616) : IntKind.u64.wrap x = x := by
 simp [IntKind.wrap, IntKind.bits, IntKind.signed]; omega
def padV (l : List Int) (m : Nat) : Array Value := ((l ++ List.replicate (m - l.length) 0).map (Value.int .u8)).toArray
theorem padV_set (l : List Int) (m : Nat) (x : Int) (h : l.length < m) : (padV l m).setIfInBounds l.length (.int .u8 x) = padV (l ++ [x]) m := by
 unfold padV
 apply Array.toList_inj.1
 have e : m - l.length = (m - (l.length + 1)) + 1 := by omega
 simp only [List.length_append, List.length_cons, List.length_nil, Nat.zero_add]
 rw [e, List.replicate_succ]
 simp [zsI, List.set_append_right]
theorem padV_get (l : List Int) (m : Nat) (i : Nat) (h : i < l.length) : (padV l m)[i]? = some (.int .u8 (l.getD i 0)) := by
 unfold padV
 rw [List.getElem?_toArray, List.getElem?_map, List.getElem?_append_left h, List.getElem?_eq_getElem h, List.getD_eq_getElem?_getD, List.getElem?_eq_getElem h]
 rfl
theorem padV_at (l : List Int) (m : Nat) (h : l.length < m) : (padV l m)[l.length]? = some (.int .u8 0) := by
 unfold padV
 have e : m - l.length = (m - (l.length + 1)) + 1 := by omega
 rw [List.getElem?_toArray, List.getElem?_map, List.getElem?_append_right (Nat.le_refl _), e, List.replicate_succ]
 simp
theorem or128 (x : Int) (h0 : 0 ≤ x) : bits .or .u8 (x % 256) 128 = x % 128 + 128 := by
 have key : ∀ n : Fin 256, n.val ||| 128 = n.val % 128 + 128 := by decide +kernel
 have h1 : 0 ≤ x % 256 := Int.emod_nonneg _ (by decide)
 have h2 : x % 256 < 256 := Int.emod_lt_of_pos _ (by decide)
 obtain ⟨n, hn⟩ := Int.eq_ofNat_of_zero_le h1
 have hlt : n < 256 := by omega
 have hz : x % 128 = ((n % 128 : Nat) : Int) := by omega
 rw [hn, hz]
 show IntKind.u8.wrap ((BitVec.ofInt 8 (n : Int) ||| BitVec.ofInt 8 ((128 : Nat) : Int)).toNat : Int) = _
 rw [BitVec.toNat_or]
 have e1 : (BitVec.ofInt 8 (n : Int)).toNat = n := by rw [BitVec.ofInt_natCast, BitVec.toNat_ofNat]; exact Nat.mod_eq_of_lt hlt
 have e2 : (BitVec.ofInt 8 ((128 : Nat) : Int)).toNat = 128 := by decide
 rw [e1, e2, key ⟨n, hlt⟩, IntKind.wrap_u8]
 show (((n % 128 + 128 : Nat) : Int)) % 256 = _
 omega
theorem pow_two_le (f : Nat) (x : Int) (h : x < 128 ^ f) (hx : 128 ≤ x) : 2 ≤ f ∧ x / 128 < 128 ^ (f - 1) := by
 match f with
 | 0 => simp at h; omega
 | 1 => simp at h; omega
 | f + 2 =>
  refine ⟨by omega, ?_⟩
  rw [show f + 2 - 1 = f + 1 from rfl]
  rw [Int.pow_succ] at h
  generalize (128 : Int) ^ (f + 1) = p at *
  omega
theorem chainF_more (f : Nat) (x : Int) (hx : ¬ x < 128) (hf : 1 ≤ f) : chainF f x = (x % 128 + 128) :: chainF (f - 1) (x / 128) := by
 match f, hf with
 | f + 1, _ => simp [chainF, hx]
theorem chainF_last (f : Nat) (x : Int) (hx : x < 128) (hf : 1 ≤ f) : chainF f x = [x] := by
 match f, hf with
 | f + 1, _ => simp [chainF, hx]
set_option maxHeartbeats 4000000 in
set_option maxRecDepth 100000 in
theorem nums_Chain.calls (a0 : Int) (r : ByteArray) (w : World) (h : nums_Chain.f a0 = some r) :
  Calls Try.prog 137 #[.int .u64 a0] w fun e w' => e = .returned (.string r) ∧ Below w.heap.size w w' := by
 unfold nums_Chain.f at h
 by_cases hb : 0 ≤ a0 ∧ a0 < u64top
 case neg => rw [if_neg hb] at h; exact absurd h (by simp)
 rw [if_pos hb] at h
 obtain rfl := Option.some.inj h
 clear h
 obtain ⟨h0, h1⟩ := hb
 have hpow : Aside0 (a0 < 128 ^ 10) := ⟨by unfold u64top at h1; omega⟩
 clear h1
 go_enter Try.func137, Try.ntmps137
 go_wp2
 go_loopw [0, 4] (fun v i wr => ∃ (f : Nat) (x : Int) (l : List Int), v = .int .u64 x ∧ i = .int .i64 (l.length : Int) ∧ 1 ≤ f ∧ l.length + f = 10 ∧ 0 ≤ x ∧ Aside0 (x < 128 ^ f) ∧ Aside0 (l ++ chainF f x = chainF 10 a0) ∧ Aside0 (wr.heap[w.heap.size]? = some (.cells (padV l 10) 232 (0, 0))) ∧ Aside0 (Below w.heap.size w wr)) (fun _ i _ => 10 - (intOf i).toNat)
 case atStart => exact ⟨10, a0, [], rfl, rfl, by omega, rfl, h0, hpow, ⟨rfl⟩, ⟨heap_alloc_new w _⟩, ⟨(Below.refl _ _).alloc (Nat.le_refl _) _⟩⟩
 case round =>
  clear hpow
  obtain ⟨f, x, l, rfl, rfl, hf, hlf, hx0, hpow, HL, HH, HB⟩ := hrel
  have hc : wr.cell? ⟨w.heap.size, l.length, none⟩ = some (.int .u8 0) := (blk_cell HH.out _).trans (padV_at l 10 (by omega))
  have hfz : wr.frozen? ⟨w.heap.size, l.length, none⟩ = false := blk_frozen HH.out _
  by_cases hx : x < 128
  ·have hcv := run_convert_bytes_arg (P := Try.prog) (wr.setCell ⟨w.heap.size, l.length, none⟩ (.int .u8 x)) 170 5 Try.underlying170 Try.underlying5 w.heap.size 0 (l.length + 1) 10 (l ++ [x]) (by simp) (by
    intro i hi
    have h1 := blk_set HH.out l.length (.int .u8 x)
    rw [padV_set l 10 x (by omega)] at h1
    rw [Nat.zero_add]
    exact (blk_cell h1 i).trans (padV_get _ _ i (by simp; omega))) 9 Try.underlying9
   have hal : Try.prog.arrayLen 232 = 10 := by kernel_rfl
   have hsl := fun W : World => run_sliceAt_array_h (P := Try.prog) W 232 ⟨w.heap.size, 0, none⟩ (by kernel_rfl) .i64 ((l.length : Int) + 1) (by omega) (by rw [hal]; omega)
   clear hal
   go_wp2
   go_ret
   refine ⟨?_, HB.out.setCell (by simp) _⟩
   rw [← HL.out, chainF_last f x hx hf]
   rfl
  ·have hpw := pow_two_le f x hpow.out (by omega)
   have hf2 : 2 ≤ f := hpw.1
   have hpw2 := mkA hpw.2
   clear hpw
   go_wp2
   refine ⟨⟨f - 1, x / 128, l ++ [x % 128 + 128], rfl, by simp, by omega, by simp; omega, by omega, hpw2, ⟨?_⟩, ⟨?_⟩, ⟨HB.out.setCell (by simp) _⟩⟩, by simp [intOf]; omega⟩
   ·rw [List.append_assoc, List.singleton_append, ← chainF_more f x hx (by omega)]; exact HL.out
   ·rw [or128 x hx0, ← padV_set l 10 _ (by omega)]; exact blk_set HH.out _ _
end Go.Proofs.Ytohhlkabejangaa.Hand
