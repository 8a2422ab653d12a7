import Derived.Test.YtohhlkabejangaaMb1
namespace Go.Proofs.Ytohhlkabejangaa.Mb
set_option linter.unusedVariables false
set_option linter.unusedSimpArgs false
open Go.RowKit Go.Maps Go.Sort Go.Proofs.YtohhlkabejangaaW.PrintWords Go.Proofs.YtohhlkabejangaaW.PrintLast Go.Proofs.YtohhlkabejangaaW.PrintMore Go.Proofs.Ytohhlkabejangaa.PAs Go.Proofs.Ytohhlkabejangaa.As
abbrev Rg (W : World) (b r n : Nat) (D : DataW Unit) (left : Lit → Bool) (cnt : Nat) : Prop := W.ranges Try.prog 9 (plainElem (H := Unit) Try.prog 3) b r n D left cnt
theorem keyS (x : List UInt8) (h : x.length ≤ 1000) : keyOf Try.prog 9 (encStr x) = some (.string x) := key_str x h
theorem cnt_step {k a b n : Nat} (h1 : k + a = n) (h2 : a = b + 1) : k + 1 + b = n := by omega
theorem cnt_le {k a n : Nat} (h1 : k + a = n) (h2 : n ≤ 8) : k ≤ 8 := by omega
theorem wrapk (k : Nat) (h : k ≤ 8) : wrap64 ((k : Int) + 1) = (k : Int) + 1 ∧ IntKind.i64.wrap ((k : Int) + 1) = (k : Int) + 1 := ⟨w64 _ (by omega) (by omega), IntWalk.i64_in _ (by omega)⟩
set_option maxHeartbeats 16000000 in
set_option maxRecDepth 100000 in
theorem sweep_calls (a b : Nat) (m : MG) (slot : Int) (w : World) (hT : Tab w a b m) (hok : okM m) (hg : m.g ≤ 1000000) (hs : okS m slot = true) :
    Calls Try.prog 90 #[.pointer (some ⟨a, 0, none⟩), .int .i64 slot] w fun e w' => e = .returned (.int .i64 (outM m slot)) ∧ Tab w' a b (sweepM m slot) ∧ Far w w' a b := by
  have hund : ∀ b, some undef = some (Value.bool b) → False := fun b h => by simp [undef] at h
  have hs2 : m.s ≤ slot ∧ slot ≤ 1099511627776 := by
    unfold okS at hs
    simpa [Bool.and_eq_true, decide_eq_true_eq] using hs
  have hs0 := hok.s
  have hw0 := hok.w
  have hg0 := hok.g
  have HOK := Aside0.mk hok
  have HRIS := Aside0.mk hT.ris
  have HAB := Aside0.mk hT.ne
  have HT1 := Aside0.mk (hT.set 3 (.int .i64 slot) (m' := { m with s := slot }) rfl rfl)
  have HF1 := Aside0.mk (Far.set w a b 3 (.int .i64 slot))
  have hc3 : w.cell? ⟨a, 3, none⟩ = some (.int .i64 m.s) := hT.c 3
  have hz3 : w.frozen? ⟨a, 3, none⟩ = false := hT.z 3
  have HLT := Aside0.mk (show a < (w.setCell ⟨a, 3, none⟩ (.int .i64 slot)).heap.size from HT1.out.lt)
  have hc4 : (w.setCell ⟨a, 3, none⟩ (.int .i64 slot)).cell? ⟨a, 4, none⟩ = some (.map (some b)) := HT1.out.c 4
  clear hok hs hT
  go_enter Try.func90, Try.ntmps90
  go_upto_region 3 with fail
  generalize w.setCell ⟨a, 3, none⟩ (.int .i64 slot) = w1 at *
  go_wp2_with (first
    | (at_range; refine wpList_range_own _ rfl _ 143 rfl 9 3 str_law Try.underlying143 (plainElem (H := Unit) Try.prog 3) b m.L.length (datM m.L) rfl HT1.out.own ?_; intro w2 hrg hgr hsz; have HRG := Aside0.mk (show Rg w2 b w1.heap.size m.L.length (datM m.L) (Maps.has (datM m.L)) (Maps.size (datM m.L)) from hrg); have HF2 := Aside0.mk (HF1.out.trans (Far.new (r := 0) hgr)); have HC2 := Aside0.mk ((hgr.block a HLT.out (by simp)).trans HT1.out.cell); clear hrg hgr hsz))
  obtain ⟨r, hr⟩ : ∃ r, w1.heap.size = r := ⟨_, rfl⟩
  rw [hr] at HRG HLT
  simp only [hr]
  have hrw : w.heap.size ≤ r := by rw [← hr]; exact HF1.out.size
  have HRW := Aside0.mk hrw
  clear hr HT1 HF1 hrw hc4 hz3 hc3
  go_frame
  show Code.wp _ _ _ _ _
  go_loopw [5] (fun nv wr => ∃ (left : Lit → Bool) (cnt k : Nat), nv = .int .i64 k ∧ Aside0 (k + (midM m.w slot left m.L).length = m.L.length) ∧ Aside0 (Rg wr b r m.L.length (datM (midM m.w slot left m.L)) left cnt) ∧ Aside0 (wr.heap[a]? = some (.cells (MG.cs { m with s := slot } b) 145 (0, 0))) ∧ Aside0 (Far w wr a b)) (fun _ wr => wr.rangeLeft b r)
  case atStart => exact ⟨_, _, 0, rfl, ⟨by rw [mid_start]; omega⟩, ⟨by rw [mid_start]; exact HRG.out⟩, HC2, HF2⟩
  case round =>
    clear HRG HC2 HF2
    obtain ⟨left, cnt, k, rfl, HN, HRG, HC, HF⟩ := hrel
    have hc1 : wr.cell? ⟨a, 1, none⟩ = some (.int .i64 m.w) := (blk_cell HC.out 1).trans rfl
    have HBR := Aside0.mk (show b ≠ r from fun e => by
      obtain ⟨_, _, _, _, _, h1, _, _, _, h2, _⟩ := HRG.out
      rw [e, h2] at h1
      cases h1)
    go_wp2_with (first
      | (at_next; refine wpList_next_ranges _ rfl _ rfl 9 str_law (plainElem (H := Unit) Try.prog 3) encStr (Value.int .i64) (fun key kl hk => by obtain ⟨x, hx, _⟩ := Maps.keyOf_str Try.underlying9 hk; exact ⟨x, hx⟩) (fun v y hv => by obtain ⟨c, rfl, _⟩ := plainElem_int_inv Try.underlying3 hv; exact ⟨c, rfl⟩) b r m.L.length _ _ _ rfl HRG.out ?_ ?_))
    · intro hc0 hl0
      have HL := Aside0.mk (mid_end m.w slot m.L left hl0)
      have hkn : k + (keepM m.w slot m.L).length = m.L.length := by rw [← HL.out]; exact HN.out
      have HOWN := Aside0.mk (show wr.ownsMap Try.prog 9 (plainElem (H := Unit) Try.prog 3) b m.L.length (datM (keepM m.w slot m.L)) by rw [← HL.out]; exact World.ranges.owns HRG.out)
      have hc2 : wr.cell? ⟨a, 2, none⟩ = some (.int .i64 m.g) := (blk_cell HC.out 2).trans rfl
      have hz2 : wr.frozen? ⟨a, 2, none⟩ = false := blk_frozen HC.out 2
      have HT := Aside0.mk (show Tab wr a b { m with s := slot, L := keepM m.w slot m.L } from ⟨HC.out, own_exact HOWN.out, ris_filter HRIS.out _⟩)
      have hout : ((k : Nat) : Int) = outM m slot := by unfold outM; omega
      clear hl0 hc0 HRG HN HC HL HOWN
      by_cases hk0 : k = 0
      · have e1 : decide ((k : Int) > 0) = false := decide_eq_false (by omega)
        have e2 : decide (0 < (k : Int)) = false := decide_eq_false (by omega)
        have e3 : decide (0 < k) = false := decide_eq_false (by omega)
        have hsw : sweepM m slot = { m with s := slot, L := keepM m.w slot m.L } := by
          unfold sweepM
          rw [if_neg (by omega)]
        clear hk0 hkn
        have HOUT := Aside0.mk hout
        have HSW := Aside0.mk hsw
        clear hout hsw
        go_wp2_with fail
        go_ret
        exact ⟨by rw [← HOUT.out]; rfl, by rw [HSW.out]; exact HT.out, HF.out⟩
      · have e1 : decide ((k : Int) > 0) = true := decide_eq_true (by omega)
        have e2 : decide (0 < (k : Int)) = true := decide_eq_true (by omega)
        have e3 : decide (0 < k) = true := decide_eq_true (by omega)
        have hsw : sweepM m slot = { m with s := slot, g := m.g + 1, L := keepM m.w slot m.L } := by
          unfold sweepM
          rw [if_pos (by omega)]
        have hw1 : wrap64 (m.g + 1) = m.g + 1 := w64 _ (by omega) (by omega)
        have hw2 : IntKind.i64.wrap (m.g + 1) = m.g + 1 := IntWalk.i64_in _ (by omega)
        clear hk0 hkn
        have HOUT := Aside0.mk hout
        have HSW := Aside0.mk hsw
        clear hout hsw
        go_wp2_with fail
        go_ret
        exact ⟨by rw [← HOUT.out]; rfl, by rw [HSW.out]; exact HT.out.set 2 (.int .i64 (m.g + 1)) rfl rfl, HF.out.trans (Far.set _ _ _ _ _)⟩
    · intro x c kl y0 ps w3 cnt1 hkey hlk hRy hat hrg1 hlt hg3 hs3 hen
      obtain ⟨x', ex, rfl, _⟩ := Maps.keyOf_str Try.underlying9 hkey
      obtain rfl : x = x' := encStr_inj ex
      obtain ⟨c', hc', hy0⟩ := plainElem_int_inv Try.underlying3 hRy
      obtain rfl : c = c' := by simpa using hc'
      obtain ⟨y, hyL, hyx, hyc⟩ := mid_find m.w slot m.L HRIS.out left x c hlk (fun zd => (hat zd).trans (congrArg Prod.fst hy0.1))
      subst hyx hyc
      have hya := HOK.out.a y hyL
      have HLK := Aside0.mk hlk
      have HYL := Aside0.mk hyL
      have HKEY := Aside0.mk hkey
      have HRG1 := Aside0.mk (show Rg w3 b r m.L.length (datM (midM m.w slot left m.L)) (fun z => left z && !z.sameKey (.string (kM y))) cnt1 from hrg1)
      have HRL := Aside0.mk (show r < wr.heap.size by
        obtain ⟨_, _, _, _, _, _, _, _, _, h2, _⟩ := HRG.out
        exact (Array.getElem?_eq_some_iff.1 h2).1)
      have n_C := Aside0.mk ((hg3.block a (Nat.lt_trans HLT.out HRL.out) (fun e => by have := HLT.out; have := Option.some.inj e; omega)).trans HC.out)
      have n_F := Aside0.mk (show Far w w3 a b from ⟨hg3.os.trans HF.out.os, hg3.tape.trans HF.out.tape, hg3.output.trans HF.out.output, Nat.le_trans HF.out.size hg3.size, fun i hi h1 h2 => (hg3.block i (Nat.lt_of_lt_of_le hi HF.out.size) (fun e => by have := HRW.out; have := Option.some.inj e; omega)).trans (HF.out.block i hi h1 h2)⟩)
      have hleft := HRG.out.left_eq
      have HLE := Aside0.mk hleft
      have HLTC := Aside0.mk hlt
      clear hleft hlt hlk hyL hkey hrg1 hat hRy hy0 HRG hc' ex hg3 hs3 hc1 HC HF
      have HC := n_C
      have HF := n_F
      clear n_C n_F
      have hc1 : w3.cell? ⟨a, 1, none⟩ = some (.int .i64 m.w) := (blk_cell HC.out 1).trans rfl
      have hc4 : w3.cell? ⟨a, 4, none⟩ = some (.map (some b)) := (blk_cell HC.out 4).trans rfl
      have hwr1 : wrap64 (slot - y.f1) = slot - y.f1 := w64 _ (by omega) (by omega)
      have hwr2 : IntKind.i64.wrap (slot - y.f1) = slot - y.f1 := IntWalk.i64_in _ (by omega)
      by_cases hk : slot - y.f1 ≤ m.w
      · have e1 : decide (slot - y.f1 > m.w) = false := decide_eq_false (by omega)
        have e2 : decide (m.w < slot - y.f1) = false := decide_eq_false (by omega)
        have HST := Aside0.mk (mid_stays m.w slot m.L HRIS.out left y HYL.out hk)
        clear hya
        go_wp2_with fail
        go_roundw
        case rel => exact ⟨_, cnt1, k, rfl, ⟨by rw [HST.out]; exact HN.out⟩, ⟨by rw [HST.out]; exact HRG1.out⟩, HC, HF⟩
        case measure => rw [HRG1.out.left_eq, HLE.out]; exact HLTC.out
      · have e1 : decide (slot - y.f1 > m.w) = true := decide_eq_true (by omega)
        have e2 : decide (m.w < slot - y.f1) = true := decide_eq_true (by omega)
        have hst := mid_struck m.w slot m.L HRIS.out left y HYL.out hk HLK.out
        have HS1 := Aside0.mk hst.1
        have HS2 := Aside0.mk hst.2
        have hkb : k ≤ 8 := cnt_le HN.out HOK.out.n
        obtain ⟨hwk1, hwk2⟩ := wrapk k hkb
        clear hya hst
        go_wp2_with (first
          | (at_delete; refine wpList_delete_ranges _ rfl _ _ 143 9 rfl 3 str_law Try.underlying143 _ b r m.L.length _ _ _ rfl HRG1.out _ _ rfl HKEY.out ?_; intro w4 cnt2 hrg2 hle hturn; have HRG2 := Aside0.mk hrg2; have HLE2 := Aside0.mk hle; have HTU := Aside0.mk hturn.grown; clear hrg2 hle hturn; go_frame))
        rw [HS1.out] at HRG2
        have HRG3 := Aside0.mk (show Rg w4 b r m.L.length (datM (midM m.w slot (fun z => left z && !z.sameKey (.string (kM y))) m.L)) (fun z => left z && !z.sameKey (.string (kM y))) cnt2 by
          have h9 := HRG2.out
          rw [strike_twice] at h9
          exact h9)
        have HN2 := Aside0.mk (show k + 1 + (midM m.w slot (fun z => left z && !z.sameKey (.string (kM y))) m.L).length = m.L.length from cnt_step HN.out HS2.out)
        have HC4 := Aside0.mk ((HTU.out.block a (blk_lt HC.out) (fun e => HAB.out (Option.some.inj e))).trans HC.out)
        have HF4 := Aside0.mk (HF.out.trans (Far.grown HTU.out))
        clear HRG2 HS1 HS2 HN
        go_roundw
        case rel => exact ⟨_, cnt2, k + 1, by first | rfl | simp, HN2, HRG3, HC4, HF4⟩
        case measure => rw [HRG3.out.left_eq, HLE.out]; exact Nat.lt_of_le_of_lt HLE2.out HLTC.out
end Go.Proofs.Ytohhlkabejangaa.Mb
