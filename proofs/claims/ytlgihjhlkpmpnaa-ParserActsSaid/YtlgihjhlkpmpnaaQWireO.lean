import Derived.Test.YtlgihjhlkpmpnaaQWireN
namespace Go.Proofs.Ytlgihjhlkpmpnaa.Wire
set_option linter.unusedVariables false
set_option linter.unusedSimpArgs false
open Go.RowKit Go.Proofs.YtlgihjhlkpmpnaaW.PrintWords Go.Proofs.YtlgihjhlkpmpnaaW.PrintLast Go.Proofs.YtlgihjhlkpmpnaaW.PrintMore Go.Proofs.Ytlgihjhlkpmpnaa.Hand Go.Proofs.Ytlgihjhlkpmpnaa.PWire Go.Proofs.Ytlgihjhlkpmpnaa.PureNums
/-- may a clean request be? -/
def sizesB (y : Rq) (ps : List S102) : Bool := decide (ps.length ≤ 16) && decide (y.pt.size ≤ 64) && decide (y.tt.size ≤ 64) && decide (y.grp.size ≤ 64) && decide (y.mem.size ≤ 64) && decide (y.sn.size ≤ 64)
def numsB (y : Rq) : Bool := upToB y.label && upToB y.pp && upToB y.off && upToB y.most && upToB y.gen && upToB y.prod && upToB y.seq && upToB y.tp
def mayR (y : Rq) (ps : List S102) : Bool := ps.all pairB && sizesB y ps && numsB y && (upToB y.sp && upToB y.sa && upToB y.ss)
theorem okL (x : Rq) (l : List S102) (c : Int) : okLetter x l c = (upToB (numF x c).1 && decide ((textF x c).1.size ≤ 64) && (if c = 66 then pairsB l else true) && (if c = 67 then specB x else true)) := rfl
theorem up0 : upToB 0 = true := by decide
theorem nil0 : decide ((⟨#[]⟩ : ByteArray).size ≤ 64) = true := by decide
theorem mayR_eq (x : Rq) (l : List S102) (h1 : 1 ≤ x.kind) (h2 : x.kind ≤ 12) (i0 : 0 ≤ x.id) (i1 : x.id ≤ 65535) : mayR (cleanL x (lets (formF x.kind))) (pairsL l (lets (formF x.kind))) = mayB x l := by
  have u0 := up0
  have e0 := nil0
  unfold mayB
  rw [decide_eq_true i0, decide_eq_true i1]
  rcases (show x.kind = 1 ∨ x.kind = 2 ∨ x.kind = 3 ∨ x.kind = 4 ∨ x.kind = 5 ∨ x.kind = 6 ∨ x.kind = 7 ∨ x.kind = 8 ∨ x.kind = 9 ∨ x.kind = 10 ∨ x.kind = 11 ∨ x.kind = 12 by omega) with h | h | h | h | h | h | h | h | h | h | h | h
  · have hl : lets (formF x.kind) = [76, 84, 80, 82, 83, 66] := by rw [h]; rfl
    have hc : cleanL x [76, 84, 80, 82, 83, 66] = {rq0 x.kind x.id with label := x.label, pt := x.pt, pp := x.pp, prod := x.prod, seq := x.seq} := rfl
    rw [hl, hc]
    simp only [mayR, sizesB, numsB, rq0, pairsL, List.all_cons, List.all_nil, okL, numF, textF, specB, pairsB, u0, e0, List.length_nil, List.isEmpty_cons, List.mem_cons, List.not_mem_nil, Nat.zero_le, decide_true, Bool.not_false, Bool.and_true, Bool.true_and, if_true, if_false, reduceIte, Int.reduceEq, or_false, false_or, or_true]
    first | done | rfl | (simp only [Bool.and_assoc, Bool.and_comm, Bool.and_left_comm]; done) | (rw [Bool.eq_iff_iff]; simp only [Bool.and_eq_true]; constructor <;> (intro hh; simp only [hh, true_and, and_true]; first | done | ((repeat' apply And.intro) <;> rfl)))
  · have hl : lets (formF x.kind) = [76, 84, 80, 79, 77] := by rw [h]; rfl
    have hc : cleanL x [76, 84, 80, 79, 77] = {rq0 x.kind x.id with label := x.label, pt := x.pt, pp := x.pp, off := x.off, most := x.most} := rfl
    rw [hl, hc]
    simp only [mayR, sizesB, numsB, rq0, pairsL, List.all_cons, List.all_nil, okL, numF, textF, specB, pairsB, u0, e0, List.length_nil, List.isEmpty_cons, List.mem_cons, List.not_mem_nil, Nat.zero_le, decide_true, Bool.not_false, Bool.and_true, Bool.true_and, if_true, if_false, reduceIte, Int.reduceEq, or_false, false_or, or_true]
    first | done | rfl | (simp only [Bool.and_assoc, Bool.and_comm, Bool.and_left_comm]; done) | (rw [Bool.eq_iff_iff]; simp only [Bool.and_eq_true]; constructor <;> (intro hh; simp only [hh, true_and, and_true]; first | done | ((repeat' apply And.intro) <;> rfl)))
  · have hl : lets (formF x.kind) = [67] := by rw [h]; rfl
    have hc : cleanL x [67] = {rq0 x.kind x.id with sn := x.sn, sp := x.sp, sa := x.sa, ss := x.ss, sc := x.sc} := rfl
    rw [hl, hc]
    simp only [mayR, sizesB, numsB, rq0, pairsL, List.all_cons, List.all_nil, okL, numF, textF, specB, pairsB, u0, e0, List.length_nil, List.isEmpty_cons, List.mem_cons, List.not_mem_nil, Nat.zero_le, decide_true, Bool.not_false, Bool.and_true, Bool.true_and, if_true, if_false, reduceIte, Int.reduceEq, or_false, false_or, or_true]
    first | done | rfl | (simp only [Bool.and_assoc, Bool.and_comm, Bool.and_left_comm]; done) | (rw [Bool.eq_iff_iff]; simp only [Bool.and_eq_true]; constructor <;> (intro hh; simp only [hh, true_and, and_true]; first | done | ((repeat' apply And.intro) <;> rfl)))
  · have hl : lets (formF x.kind) = [84] := by rw [h]; rfl
    have hc : cleanL x [84] = {rq0 x.kind x.id with pt := x.pt} := rfl
    rw [hl, hc]
    simp only [mayR, sizesB, numsB, rq0, pairsL, List.all_cons, List.all_nil, okL, numF, textF, specB, pairsB, u0, e0, List.length_nil, List.isEmpty_cons, List.mem_cons, List.not_mem_nil, Nat.zero_le, decide_true, Bool.not_false, Bool.and_true, Bool.true_and, if_true, if_false, reduceIte, Int.reduceEq, or_false, false_or, or_true]
    first | done | rfl | (simp only [Bool.and_assoc, Bool.and_comm, Bool.and_left_comm]; done) | (rw [Bool.eq_iff_iff]; simp only [Bool.and_eq_true]; constructor <;> (intro hh; simp only [hh, true_and, and_true]; first | done | ((repeat' apply And.intro) <;> rfl)))
  · have hl : lets (formF x.kind) = [71, 78, 84] := by rw [h]; rfl
    have hc : cleanL x [71, 78, 84] = {rq0 x.kind x.id with grp := x.grp, mem := x.mem, pt := x.pt} := rfl
    rw [hl, hc]
    simp only [mayR, sizesB, numsB, rq0, pairsL, List.all_cons, List.all_nil, okL, numF, textF, specB, pairsB, u0, e0, List.length_nil, List.isEmpty_cons, List.mem_cons, List.not_mem_nil, Nat.zero_le, decide_true, Bool.not_false, Bool.and_true, Bool.true_and, if_true, if_false, reduceIte, Int.reduceEq, or_false, false_or, or_true]
    first | done | rfl | (simp only [Bool.and_assoc, Bool.and_comm, Bool.and_left_comm]; done) | (rw [Bool.eq_iff_iff]; simp only [Bool.and_eq_true]; constructor <;> (intro hh; simp only [hh, true_and, and_true]; first | done | ((repeat' apply And.intro) <;> rfl)))
  · have hl : lets (formF x.kind) = [71, 78] := by rw [h]; rfl
    have hc : cleanL x [71, 78] = {rq0 x.kind x.id with grp := x.grp, mem := x.mem} := rfl
    rw [hl, hc]
    simp only [mayR, sizesB, numsB, rq0, pairsL, List.all_cons, List.all_nil, okL, numF, textF, specB, pairsB, u0, e0, List.length_nil, List.isEmpty_cons, List.mem_cons, List.not_mem_nil, Nat.zero_le, decide_true, Bool.not_false, Bool.and_true, Bool.true_and, if_true, if_false, reduceIte, Int.reduceEq, or_false, false_or, or_true]
    first | done | rfl | (simp only [Bool.and_assoc, Bool.and_comm, Bool.and_left_comm]; done) | (rw [Bool.eq_iff_iff]; simp only [Bool.and_eq_true]; constructor <;> (intro hh; simp only [hh, true_and, and_true]; first | done | ((repeat' apply And.intro) <;> rfl)))
  · have hl : lets (formF x.kind) = [71, 78, 69] := by rw [h]; rfl
    have hc : cleanL x [71, 78, 69] = {rq0 x.kind x.id with grp := x.grp, mem := x.mem, gen := x.gen} := rfl
    rw [hl, hc]
    simp only [mayR, sizesB, numsB, rq0, pairsL, List.all_cons, List.all_nil, okL, numF, textF, specB, pairsB, u0, e0, List.length_nil, List.isEmpty_cons, List.mem_cons, List.not_mem_nil, Nat.zero_le, decide_true, Bool.not_false, Bool.and_true, Bool.true_and, if_true, if_false, reduceIte, Int.reduceEq, or_false, false_or, or_true]
    first | done | rfl | (simp only [Bool.and_assoc, Bool.and_comm, Bool.and_left_comm]; done) | (rw [Bool.eq_iff_iff]; simp only [Bool.and_eq_true]; constructor <;> (intro hh; simp only [hh, true_and, and_true]; first | done | ((repeat' apply And.intro) <;> rfl)))
  · have hl : lets (formF x.kind) = [71, 78, 69, 84, 80, 79] := by rw [h]; rfl
    have hc : cleanL x [71, 78, 69, 84, 80, 79] = {rq0 x.kind x.id with grp := x.grp, mem := x.mem, gen := x.gen, pt := x.pt, pp := x.pp, off := x.off} := rfl
    rw [hl, hc]
    simp only [mayR, sizesB, numsB, rq0, pairsL, List.all_cons, List.all_nil, okL, numF, textF, specB, pairsB, u0, e0, List.length_nil, List.isEmpty_cons, List.mem_cons, List.not_mem_nil, Nat.zero_le, decide_true, Bool.not_false, Bool.and_true, Bool.true_and, if_true, if_false, reduceIte, Int.reduceEq, or_false, false_or, or_true]
    first | done | rfl | (simp only [Bool.and_assoc, Bool.and_comm, Bool.and_left_comm]; done) | (rw [Bool.eq_iff_iff]; simp only [Bool.and_eq_true]; constructor <;> (intro hh; simp only [hh, true_and, and_true]; first | done | ((repeat' apply And.intro) <;> rfl)))
  · have hl : lets (formF x.kind) = [76, 71, 84, 80] := by rw [h]; rfl
    have hc : cleanL x [76, 71, 84, 80] = {rq0 x.kind x.id with label := x.label, grp := x.grp, pt := x.pt, pp := x.pp} := rfl
    rw [hl, hc]
    simp only [mayR, sizesB, numsB, rq0, pairsL, List.all_cons, List.all_nil, okL, numF, textF, specB, pairsB, u0, e0, List.length_nil, List.isEmpty_cons, List.mem_cons, List.not_mem_nil, Nat.zero_le, decide_true, Bool.not_false, Bool.and_true, Bool.true_and, if_true, if_false, reduceIte, Int.reduceEq, or_false, false_or, or_true]
    first | done | rfl | (simp only [Bool.and_assoc, Bool.and_comm, Bool.and_left_comm]; done) | (rw [Bool.eq_iff_iff]; simp only [Bool.and_eq_true]; constructor <;> (intro hh; simp only [hh, true_and, and_true]; first | done | ((repeat' apply And.intro) <;> rfl)))
  · have hl : lets (formF x.kind) = [84, 80, 79, 76, 116, 112] := by rw [h]; rfl
    have hc : cleanL x [84, 80, 79, 76, 116, 112] = {rq0 x.kind x.id with pt := x.pt, pp := x.pp, off := x.off, label := x.label, tt := x.tt, tp := x.tp} := rfl
    rw [hl, hc]
    simp only [mayR, sizesB, numsB, rq0, pairsL, List.all_cons, List.all_nil, okL, numF, textF, specB, pairsB, u0, e0, List.length_nil, List.isEmpty_cons, List.mem_cons, List.not_mem_nil, Nat.zero_le, decide_true, Bool.not_false, Bool.and_true, Bool.true_and, if_true, if_false, reduceIte, Int.reduceEq, or_false, false_or, or_true]
    first | done | rfl | (simp only [Bool.and_assoc, Bool.and_comm, Bool.and_left_comm]; done) | (rw [Bool.eq_iff_iff]; simp only [Bool.and_eq_true]; constructor <;> (intro hh; simp only [hh, true_and, and_true]; first | done | ((repeat' apply And.intro) <;> rfl)))
  · have hl : lets (formF x.kind) = [76] := by rw [h]; rfl
    have hc : cleanL x [76] = {rq0 x.kind x.id with label := x.label} := rfl
    rw [hl, hc]
    simp only [mayR, sizesB, numsB, rq0, pairsL, List.all_cons, List.all_nil, okL, numF, textF, specB, pairsB, u0, e0, List.length_nil, List.isEmpty_cons, List.mem_cons, List.not_mem_nil, Nat.zero_le, decide_true, Bool.not_false, Bool.and_true, Bool.true_and, if_true, if_false, reduceIte, Int.reduceEq, or_false, false_or, or_true]
    first | done | rfl | (simp only [Bool.and_assoc, Bool.and_comm, Bool.and_left_comm]; done) | (rw [Bool.eq_iff_iff]; simp only [Bool.and_eq_true]; constructor <;> (intro hh; simp only [hh, true_and, and_true]; first | done | ((repeat' apply And.intro) <;> rfl)))
  · have hl : lets (formF x.kind) = [76, 84, 80] := by rw [h]; rfl
    have hc : cleanL x [76, 84, 80] = {rq0 x.kind x.id with label := x.label, pt := x.pt, pp := x.pp} := rfl
    rw [hl, hc]
    simp only [mayR, sizesB, numsB, rq0, pairsL, List.all_cons, List.all_nil, okL, numF, textF, specB, pairsB, u0, e0, List.length_nil, List.isEmpty_cons, List.mem_cons, List.not_mem_nil, Nat.zero_le, decide_true, Bool.not_false, Bool.and_true, Bool.true_and, if_true, if_false, reduceIte, Int.reduceEq, or_false, false_or, or_true]
    first | done | rfl | (simp only [Bool.and_assoc, Bool.and_comm, Bool.and_left_comm]; done) | (rw [Bool.eq_iff_iff]; simp only [Bool.and_eq_true]; constructor <;> (intro hh; simp only [hh, true_and, and_true]; first | done | ((repeat' apply And.intro) <;> rfl)))
theorem cleanV_reads {x : Rq} {A : Option Addr} {k : Nat} {l : List S102} {w : World} (hp : Prs w A l.length k l) (h1 : 1 ≤ x.kind) (h2 : x.kind ≤ 12) : ∃ B m, cleanV x (.slice A l.length k) = .slice B (pairsL l (lets (formF x.kind))).length m ∧ Kd.C k102 w B (pairsL l (lets (formF x.kind))).length (pairsL l (lets (formF x.kind))) := by
  by_cases h : x.kind = 1
  · have e : pairsL l (lets (formF x.kind)) = l := by rw [h]; rfl
    rw [e]
    exact ⟨A, k, by unfold cleanV; rw [if_pos h], hp.c⟩
  · have e : pairsL l (lets (formF x.kind)) = [] := by
      rcases (show x.kind = 2 ∨ x.kind = 3 ∨ x.kind = 4 ∨ x.kind = 5 ∨ x.kind = 6 ∨ x.kind = 7 ∨ x.kind = 8 ∨ x.kind = 9 ∨ x.kind = 10 ∨ x.kind = 11 ∨ x.kind = 12 by omega) with h | h | h | h | h | h | h | h | h | h | h <;> (rw [h]; rfl)
    rw [e]
    exact ⟨none, 0, by unfold cleanV; rw [if_neg h]; rfl, Kd.C_nil _ _⟩
theorem upR_some (n : Int) : weighlockref34_upTo.f n = some (upToB n) := by
  unfold weighlockref34_upTo.f upToB
  by_cases h : n ≥ 0
  · rw [if_pos h, decide_eq_true (show 0 ≤ n from h)]; rfl
  · rw [if_neg h, decide_eq_false (show ¬ 0 ≤ n from h)]; rfl
theorem upR_calls (n : Int) (W : World) : Calls Try.prog 58 #[.int .i64 n] W fun e w' => e = .returned (.bool (upToB n)) ∧ Below W.heap.size W w' :=
  (weighlockref34_upTo.calls n (upToB n) W (upR_some n)).mono fun e w' h => ⟨h.1, by
    first
      | (obtain ⟨nd, e⟩ := h.2.out
         rw [e]
         exact pw_below_drewN (Below.refl _ _) nd)
      | exact h.2⟩
structure Sz (w : World) (y : Rq) (yu : Value) (g3 : Nat) (W : World) : Prop where
  b3 : W.heap[g3]? = some (.cells (y.cs yu) 45 (0, 0))
  bl : Below w.heap.size w W
theorem Sz.below {w : World} {y : Rq} {yu : Value} {g3 : Nat} {W W' : World} (h : Sz w y yu g3 W) (hb : Below W.heap.size W W') : Sz w y yu g3 W' := ⟨blk_below h.b3 hb, below_step h.bl hb⟩
set_option maxHeartbeats 16000000 in
set_option maxRecDepth 100000 in
theorem qmay_calls (x : Rq) (A : Option Addr) (k : Nat) (l : List S102) (w : World) (hp : Prs w A l.length k l) :
    Calls Try.prog 30 #[.agg #[.int .i64 x.id, .int .i64 x.kind, .int .i64 x.label, .string x.pt, .int .i64 x.pp, .string x.tt, .int .i64 x.tp, .string x.sn, .int .i64 x.sp, .int .i64 x.sa, .int .i64 x.ss, .bool x.sc, .string x.grp, .string x.mem, .int .i64 x.gen, .int .i64 x.off, .int .i64 x.most, .int .i64 x.prod, .int .i64 x.seq, .slice A l.length k]] w fun e w' => e = .returned (.bool (mayB x l)) ∧ Below w.heap.size w w' := by
  have hund : ∀ b, some undef = some (Value.bool b) → False := fun b h => by simp [undef] at h
  have hout : Aside0 (x.kind < 1 ∨ 12 < x.kind ∨ x.id < 0 ∨ 65535 < x.id → mayB x l = false) := ⟨fun h => by
    rw [Bool.eq_false_iff]
    intro hm
    obtain ⟨a, b, _, hne⟩ := may_parts hm
    have := form_kind _ hne
    omega⟩
  by_cases ha : x.kind < 1
  case pos =>
    have hF := Aside0.mk (hout.out (by omega))
    have t1 : x.kind < 1 := ha
    clear ha hout
    go_enter Try.func30, Try.ntmps30
    go_wp2_with (first
      | ((with_reducible refine gate_dst (N := 1) rfl ?_); refine box_event rfl (N := 1) rfl (cs := #[.int .i64 x.id, .int .i64 x.kind, .int .i64 x.label, .string x.pt, .int .i64 x.pp, .string x.tt, .int .i64 x.tp, .string x.sn, .int .i64 x.sp, .int .i64 x.sa, .int .i64 x.ss, .bool x.sc, .string x.grp, .string x.mem, .int .i64 x.gen, .int .i64 x.off, .int .i64 x.most, .int .i64 x.prod, .int .i64 x.seq, .slice A l.length k]) (t := 45) ?hr ?_; (case hr => first | (go_simp; done) | (go_simp; rfl)); intro g1 hg1 w1 hbx hbl; have X := Aside0.mk hbx; have L := Aside0.mk hbl; clear hbx hbl hg1; have c0 : w1.cell? ⟨g1, 0, none⟩ = some (.int .i64 x.id) := (blk_cell X.out 0).trans rfl; have c1 : w1.cell? ⟨g1, 1, none⟩ = some (.int .i64 x.kind) := (blk_cell X.out 1).trans rfl))
    go_ret
    exact ⟨by rw [hF.out] <;> rfl, L.out⟩
  by_cases hb : 12 < x.kind
  case pos =>
    have hF := Aside0.mk (hout.out (by omega))
    have t1 : (12 : Int) < x.kind := hb
    clear hb hout
    go_enter Try.func30, Try.ntmps30
    go_wp2_with (first
      | ((with_reducible refine gate_dst (N := 1) rfl ?_); refine box_event rfl (N := 1) rfl (cs := #[.int .i64 x.id, .int .i64 x.kind, .int .i64 x.label, .string x.pt, .int .i64 x.pp, .string x.tt, .int .i64 x.tp, .string x.sn, .int .i64 x.sp, .int .i64 x.sa, .int .i64 x.ss, .bool x.sc, .string x.grp, .string x.mem, .int .i64 x.gen, .int .i64 x.off, .int .i64 x.most, .int .i64 x.prod, .int .i64 x.seq, .slice A l.length k]) (t := 45) ?hr ?_; (case hr => first | (go_simp; done) | (go_simp; rfl)); intro g1 hg1 w1 hbx hbl; have X := Aside0.mk hbx; have L := Aside0.mk hbl; clear hbx hbl hg1; have c0 : w1.cell? ⟨g1, 0, none⟩ = some (.int .i64 x.id) := (blk_cell X.out 0).trans rfl; have c1 : w1.cell? ⟨g1, 1, none⟩ = some (.int .i64 x.kind) := (blk_cell X.out 1).trans rfl))
    go_ret
    exact ⟨by rw [hF.out] <;> rfl, L.out⟩
  by_cases hc : x.id < 0
  case pos =>
    have hF := Aside0.mk (hout.out (by omega))
    have t1 : x.id < 0 := hc
    clear hc hout
    go_enter Try.func30, Try.ntmps30
    go_wp2_with (first
      | ((with_reducible refine gate_dst (N := 1) rfl ?_); refine box_event rfl (N := 1) rfl (cs := #[.int .i64 x.id, .int .i64 x.kind, .int .i64 x.label, .string x.pt, .int .i64 x.pp, .string x.tt, .int .i64 x.tp, .string x.sn, .int .i64 x.sp, .int .i64 x.sa, .int .i64 x.ss, .bool x.sc, .string x.grp, .string x.mem, .int .i64 x.gen, .int .i64 x.off, .int .i64 x.most, .int .i64 x.prod, .int .i64 x.seq, .slice A l.length k]) (t := 45) ?hr ?_; (case hr => first | (go_simp; done) | (go_simp; rfl)); intro g1 hg1 w1 hbx hbl; have X := Aside0.mk hbx; have L := Aside0.mk hbl; clear hbx hbl hg1; have c0 : w1.cell? ⟨g1, 0, none⟩ = some (.int .i64 x.id) := (blk_cell X.out 0).trans rfl; have c1 : w1.cell? ⟨g1, 1, none⟩ = some (.int .i64 x.kind) := (blk_cell X.out 1).trans rfl))
    go_ret
    exact ⟨by rw [hF.out] <;> rfl, L.out⟩
  by_cases hd : 65535 < x.id
  case pos =>
    have hF := Aside0.mk (hout.out (by omega))
    have t1 : (65535 : Int) < x.id := hd
    clear hd hout
    go_enter Try.func30, Try.ntmps30
    go_wp2_with (first
      | ((with_reducible refine gate_dst (N := 1) rfl ?_); refine box_event rfl (N := 1) rfl (cs := #[.int .i64 x.id, .int .i64 x.kind, .int .i64 x.label, .string x.pt, .int .i64 x.pp, .string x.tt, .int .i64 x.tp, .string x.sn, .int .i64 x.sp, .int .i64 x.sa, .int .i64 x.ss, .bool x.sc, .string x.grp, .string x.mem, .int .i64 x.gen, .int .i64 x.off, .int .i64 x.most, .int .i64 x.prod, .int .i64 x.seq, .slice A l.length k]) (t := 45) ?hr ?_; (case hr => first | (go_simp; done) | (go_simp; rfl)); intro g1 hg1 w1 hbx hbl; have X := Aside0.mk hbx; have L := Aside0.mk hbl; clear hbx hbl hg1; have c0 : w1.cell? ⟨g1, 0, none⟩ = some (.int .i64 x.id) := (blk_cell X.out 0).trans rfl; have c1 : w1.cell? ⟨g1, 1, none⟩ = some (.int .i64 x.kind) := (blk_cell X.out 1).trans rfl))
    go_ret
    exact ⟨by rw [hF.out] <;> rfl, L.out⟩
  have hcl := Aside0.mk (fun W : World => qclean_calls x A l.length k W)
  obtain ⟨B, m, hyu, hC⟩ := cleanV_reads hp (by omega : 1 ≤ x.kind) (by omega)
  have hM := Aside0.mk (mayR_eq x l (by omega) (by omega) (by omega) (by omega))
  rw [hyu] at hcl
  generalize cleanL x (lets (formF x.kind)) = y at *
  generalize pairsL l (lets (formF x.kind)) = ps at *
  have HC := Aside0.mk hC
  have hmx := Kd.C_max hC
  have hdef : Aside0 (mayR y ps = (ps.all pairB && (decide (ps.length ≤ 16) && decide (y.pt.size ≤ 64) && decide (y.tt.size ≤ 64) && decide (y.grp.size ≤ 64) && decide (y.mem.size ≤ 64) && decide (y.sn.size ≤ 64)) && (upToB y.label && upToB y.pp && upToB y.off && upToB y.most && upToB y.gen && upToB y.prod && upToB y.seq && upToB y.tp) && (upToB y.sp && upToB y.sa && upToB y.ss))) := ⟨rfl⟩
  rw [hM.out] at hdef
  generalize mayB x l = res at *
  clear hp hC hyu hM hout
  go_enter Try.func30, Try.ntmps30
  go_wp2_with (first
    | ((with_reducible refine gate_dst (N := 1) rfl ?_); refine box_event rfl (N := 1) rfl (cs := #[.int .i64 x.id, .int .i64 x.kind, .int .i64 x.label, .string x.pt, .int .i64 x.pp, .string x.tt, .int .i64 x.tp, .string x.sn, .int .i64 x.sp, .int .i64 x.sa, .int .i64 x.ss, .bool x.sc, .string x.grp, .string x.mem, .int .i64 x.gen, .int .i64 x.off, .int .i64 x.most, .int .i64 x.prod, .int .i64 x.seq, .slice A l.length k]) (t := 45) ?hr ?_; (case hr => first | (go_simp; done) | (go_simp; rfl)); intro g1 hg1 w1 hbx hbl; have X := Aside0.mk hbx; have L := Aside0.mk hbl; clear hbx hbl hg1; have c0 : w1.cell? ⟨g1, 0, none⟩ = some (.int .i64 x.id) := (blk_cell X.out 0).trans rfl; have c1 : w1.cell? ⟨g1, 1, none⟩ = some (.int .i64 x.kind) := (blk_cell X.out 1).trans rfl)
    | ((with_reducible refine gate_dst (N := 24) rfl ?_); refine load_ev (N := 24) rfl rfl rfl (cs := x.cs (.slice A l.length k)) rfl X.out Try.underlying45 rfl (by kernel_rfl) ?_))
  refine (hcl.out _).mono ?_
  rintro e w2 ⟨rfl, hbb⟩
  have L2 := Aside0.mk (below_step L.out hbb)
  clear hbb X L c0 c1 ha hb hc hd hcl
  go_wp2_with (first
    | ((with_reducible refine gate_dst (N := 3) rfl ?_); refine box_event rfl (N := 3) rfl (cs := #[.int .i64 0, .int .i64 0, .int .i64 0, .string ⟨#[]⟩, .int .i64 0, .string ⟨#[]⟩, .int .i64 0, .string ⟨#[]⟩, .int .i64 0, .int .i64 0, .int .i64 0, .bool false, .string ⟨#[]⟩, .string ⟨#[]⟩, .int .i64 0, .int .i64 0, .int .i64 0, .int .i64 0, .int .i64 0, .slice none 0 0]) (t := 45) ?hr ?_; (case hr => first | (go_simp; done) | (go_simp; rfl)); intro g3 hg3 w3 hbx hbl; have Z3 := Aside0.mk hbx; have L3 := Aside0.mk (below_step L2.out hbl); have G3 := Aside0.mk (show w.heap.size ≤ g3 by rw [hg3]; exact L2.out.size); clear L2 hbx hbl hg3)
    | ((with_reducible refine gate_store (t := 45) (p := 3) rfl ?_); refine store_ev rfl rfl rfl (cells := y.cs (.slice B ps.length m)) rfl rfl Z3.out (by kernel_rfl) rfl (by kernel_rfl) ?_; intro w4 hbx hgr; have HS : Aside0 (Sz w y (.slice B ps.length m) g3 w4) := ⟨⟨hbx, below_put L3.out G3.out hgr L3.out.size⟩⟩; clear Z3 L3 G3 hbx hgr; have c19 : w4.cell? ⟨g3, 19, none⟩ = some (.slice B ps.length m) := (blk_cell HS.out.b3 19).trans rfl))
  clear c19
  go_loopw [29] (fun iv wr => ∃ i : Nat, iv = .int .i64 i ∧ i ≤ ps.length ∧ Aside0 ((ps.take i).all pairB = true) ∧ Aside0 (Sz w y (.slice B ps.length m) g3 wr)) (fun iv _ => ps.length - (intOf iv).toNat)
  case atStart => exact ⟨0, rfl, Nat.zero_le _, ⟨rfl⟩, HS⟩
  case round =>
    clear HS
    obtain ⟨i, rfl, hil, HA, HS⟩ := hrel
    by_cases hlt : i < ps.length
    · obtain ⟨ad, hAd, q0, q1, q2⟩ := at_T102 (Kd.C_below HC.out HS.out.bl) (i : Int) (by omega) (by omega)
      subst hAd
      rw [rd_at ps i hlt] at q0 q1 q2
      simp only [Int.toNat_natCast] at q0 q1 q2
      have hnx : Aside0 ((ps.take (i + 1)).all pairB = pairB ps[i]) := ⟨by rw [List.take_succ_eq_append_getElem hlt, List.all_append, HA.out]; simp⟩
      have hbad : Aside0 (pairB ps[i] = false → res = false) := ⟨fun h => by
        rw [hdef.out]
        have : ps.all pairB = false := by
          rw [Bool.eq_false_iff]
          intro q
          have := List.all_eq_true.mp q ps[i] (List.getElem_mem hlt)
          rw [h] at this
          exact absurd this (by simp)
        rw [this]
        rfl⟩
      have hpb : Aside0 (pairB ps[i] = (decide (ps[i].f0.size ≤ 255) && decide (ps[i].f1.size ≤ 255))) := ⟨rfl⟩
      generalize ps[i] = pr at *
      obtain ⟨key, hkey⟩ : ∃ key, pr.f0 = key := ⟨_, rfl⟩
      obtain ⟨val, hval⟩ : ∃ val, pr.f1 = val := ⟨_, rfl⟩
      obtain ⟨gone, hgone⟩ : ∃ gone, pr.f2 = gone := ⟨_, rfl⟩
      rw [hkey] at q0 hpb
      rw [hval] at q1 hpb
      rw [hgone] at q2
      clear hkey hval hgone
      have HB := Aside0.mk (HS.out.below (below_alloc (Below.refl wr.heap.size wr) (.cells #[.string key, .string val, .bool gone] 102)))
      by_cases k0 : key.size ≤ 255
      case neg =>
        have hF := Aside0.mk (hbad.out (by rw [hpb.out, decide_eq_false k0]; rfl))
        have t1 : (255 : Int) < (key.size : Int) := by omega
        clear hpb hbad hnx k0
        go_wp2_with fail
        go_ret
        exact ⟨by rw [hF.out] <;> rfl, HB.out.bl⟩
      by_cases k1 : val.size ≤ 255
      case neg =>
        have hF := Aside0.mk (hbad.out (by rw [hpb.out, decide_eq_false k1]; simp))
        have t1 : ¬ (255 : Int) < (key.size : Int) := by omega
        have t2 : (255 : Int) < (val.size : Int) := by omega
        clear hpb hbad hnx k0 k1
        go_wp2_with fail
        go_ret
        exact ⟨by rw [hF.out] <;> rfl, HB.out.bl⟩
      have hA2 : Aside0 ((ps.take (i + 1)).all pairB = true) := ⟨by rw [hnx.out, hpb.out, decide_eq_true k0, decide_eq_true k1]; rfl⟩
      have t1 : ¬ (255 : Int) < (key.size : Int) := by omega
      have t2 : ¬ (255 : Int) < (val.size : Int) := by omega
      clear hpb hbad hnx k0 k1 HA
      go_wp2_with fail
      go_roundw
      case rel => exact ⟨i + 1, by go_num, by omega, hA2, HB⟩
      case measure => simp [intOf]; omega
    · have hie : ps.take i = ps := List.take_of_length_le (by omega)
      rw [hie] at HA
      rw [HA.out, Bool.true_and] at hdef
      clear hie HA hil
      have c3 : wr.cell? ⟨g3, 3, none⟩ = some (.string y.pt) := (blk_cell HS.out.b3 3).trans rfl
      have c5 : wr.cell? ⟨g3, 5, none⟩ = some (.string y.tt) := (blk_cell HS.out.b3 5).trans rfl
      have c12 : wr.cell? ⟨g3, 12, none⟩ = some (.string y.grp) := (blk_cell HS.out.b3 12).trans rfl
      have c13 : wr.cell? ⟨g3, 13, none⟩ = some (.string y.mem) := (blk_cell HS.out.b3 13).trans rfl
      have c7 : wr.cell? ⟨g3, 7, none⟩ = some (.string y.sn) := (blk_cell HS.out.b3 7).trans rfl
      have c19 : wr.cell? ⟨g3, 19, none⟩ = some (.slice B ps.length m) := (blk_cell HS.out.b3 19).trans rfl
      by_cases s0 : ps.length ≤ 16
      case neg =>
        have hF : Aside0 (res = false) := ⟨by rw [hdef.out, decide_eq_false s0]; simp⟩
        have t0 : (16 : Int) < (ps.length : Int) := by omega
        clear s0 hdef
        go_wp2_with fail
        go_ret
        exact ⟨by rw [hF.out] <;> rfl, HS.out.bl⟩
      have t0 : ¬ (16 : Int) < (ps.length : Int) := by omega
      by_cases s1 : y.pt.size ≤ 64
      case neg =>
        have hF : Aside0 (res = false) := ⟨by rw [hdef.out, decide_eq_false s1]; simp⟩
        have t1 : (64 : Int) < (y.pt.size : Int) := by omega
        clear hdef s0 s1
        go_wp2_with fail
        go_ret
        exact ⟨by rw [hF.out] <;> rfl, HS.out.bl⟩
      have t1 : ¬ (64 : Int) < (y.pt.size : Int) := by omega
      by_cases s2 : y.tt.size ≤ 64
      case neg =>
        have hF : Aside0 (res = false) := ⟨by rw [hdef.out, decide_eq_false s2]; simp⟩
        have t2 : (64 : Int) < (y.tt.size : Int) := by omega
        clear hdef s0 s1 s2
        go_wp2_with fail
        go_ret
        exact ⟨by rw [hF.out] <;> rfl, HS.out.bl⟩
      have t2 : ¬ (64 : Int) < (y.tt.size : Int) := by omega
      by_cases s3 : y.grp.size ≤ 64
      case neg =>
        have hF : Aside0 (res = false) := ⟨by rw [hdef.out, decide_eq_false s3]; simp⟩
        have t3 : (64 : Int) < (y.grp.size : Int) := by omega
        clear hdef s0 s1 s2 s3
        go_wp2_with fail
        go_ret
        exact ⟨by rw [hF.out] <;> rfl, HS.out.bl⟩
      have t3 : ¬ (64 : Int) < (y.grp.size : Int) := by omega
      by_cases s4 : y.mem.size ≤ 64
      case neg =>
        have hF : Aside0 (res = false) := ⟨by rw [hdef.out, decide_eq_false s4]; simp⟩
        have t4 : (64 : Int) < (y.mem.size : Int) := by omega
        clear hdef s0 s1 s2 s3 s4
        go_wp2_with fail
        go_ret
        exact ⟨by rw [hF.out] <;> rfl, HS.out.bl⟩
      have t4 : ¬ (64 : Int) < (y.mem.size : Int) := by omega
      by_cases s5 : y.sn.size ≤ 64
      case neg =>
        have hF : Aside0 (res = false) := ⟨by rw [hdef.out, decide_eq_false s5]; simp⟩
        have t5 : (64 : Int) < (y.sn.size : Int) := by omega
        clear hdef s0 s1 s2 s3 s4 s5
        go_wp2_with fail
        go_ret
        exact ⟨by rw [hF.out] <;> rfl, HS.out.bl⟩
      have t5 : ¬ (64 : Int) < (y.sn.size : Int) := by omega
      rw [decide_eq_true s0, decide_eq_true s1, decide_eq_true s2, decide_eq_true s3, decide_eq_true s4, decide_eq_true s5, Bool.and_self, Bool.and_self, Bool.and_self, Bool.and_self, Bool.and_self, Bool.true_and] at hdef
      clear s0 s1 s2 s3 s4 s5
      have v0 : wr.cell? ⟨g3, 2, none⟩ = some (.int .i64 y.label) := (blk_cell HS.out.b3 2).trans rfl
      go_wp2_with fail
      clear c3 c5 c7 c12 c13 c19 t0 t1 t2 t3 t4 t5
      have hu0 := Aside0.mk (fun W : World => upR_calls y.label W)
      by_cases u0 : upToB y.label = true
      case neg =>
        have u' : upToB y.label = false := by simpa using u0
        have hF : Aside0 (res = false) := ⟨by rw [hdef.out, u']; simp⟩
        rw [u'] at hu0
        clear u' u0 hdef
        refine (hu0.out _).mono ?_
        rintro e z0 ⟨rfl, hb⟩
        replace HS := Aside0.mk (HS.out.below hb)
        clear hb
        go_wp2_with fail
        go_ret
        exact ⟨by rw [hF.out] <;> rfl, HS.out.bl⟩
      rw [u0] at hu0 hdef
      clear u0
      refine (hu0.out _).mono ?_
      rintro e z0 ⟨rfl, hb⟩
      replace HS := Aside0.mk (HS.out.below hb)
      clear hb
      clear v0 hu0
      have v1 : z0.cell? ⟨g3, 4, none⟩ = some (.int .i64 y.pp) := (blk_cell HS.out.b3 4).trans rfl
      go_wp2_with fail
      have hu1 := Aside0.mk (fun W : World => upR_calls y.pp W)
      by_cases u1 : upToB y.pp = true
      case neg =>
        have u' : upToB y.pp = false := by simpa using u1
        have hF : Aside0 (res = false) := ⟨by rw [hdef.out, u']; simp⟩
        rw [u'] at hu1
        clear u' u1 hdef
        refine (hu1.out _).mono ?_
        rintro e z1 ⟨rfl, hb⟩
        replace HS := Aside0.mk (HS.out.below hb)
        clear hb
        go_wp2_with fail
        go_ret
        exact ⟨by rw [hF.out] <;> rfl, HS.out.bl⟩
      rw [u1] at hu1 hdef
      clear u1
      refine (hu1.out _).mono ?_
      rintro e z1 ⟨rfl, hb⟩
      replace HS := Aside0.mk (HS.out.below hb)
      clear hb
      clear v1 hu1
      have v2 : z1.cell? ⟨g3, 15, none⟩ = some (.int .i64 y.off) := (blk_cell HS.out.b3 15).trans rfl
      go_wp2_with fail
      have hu2 := Aside0.mk (fun W : World => upR_calls y.off W)
      by_cases u2 : upToB y.off = true
      case neg =>
        have u' : upToB y.off = false := by simpa using u2
        have hF : Aside0 (res = false) := ⟨by rw [hdef.out, u']; simp⟩
        rw [u'] at hu2
        clear u' u2 hdef
        refine (hu2.out _).mono ?_
        rintro e z2 ⟨rfl, hb⟩
        replace HS := Aside0.mk (HS.out.below hb)
        clear hb
        go_wp2_with fail
        go_ret
        exact ⟨by rw [hF.out] <;> rfl, HS.out.bl⟩
      rw [u2] at hu2 hdef
      clear u2
      refine (hu2.out _).mono ?_
      rintro e z2 ⟨rfl, hb⟩
      replace HS := Aside0.mk (HS.out.below hb)
      clear hb
      clear v2 hu2
      have v3 : z2.cell? ⟨g3, 16, none⟩ = some (.int .i64 y.most) := (blk_cell HS.out.b3 16).trans rfl
      go_wp2_with fail
      have hu3 := Aside0.mk (fun W : World => upR_calls y.most W)
      by_cases u3 : upToB y.most = true
      case neg =>
        have u' : upToB y.most = false := by simpa using u3
        have hF : Aside0 (res = false) := ⟨by rw [hdef.out, u']; simp⟩
        rw [u'] at hu3
        clear u' u3 hdef
        refine (hu3.out _).mono ?_
        rintro e z3 ⟨rfl, hb⟩
        replace HS := Aside0.mk (HS.out.below hb)
        clear hb
        go_wp2_with fail
        go_ret
        exact ⟨by rw [hF.out] <;> rfl, HS.out.bl⟩
      rw [u3] at hu3 hdef
      clear u3
      refine (hu3.out _).mono ?_
      rintro e z3 ⟨rfl, hb⟩
      replace HS := Aside0.mk (HS.out.below hb)
      clear hb
      clear v3 hu3
      have v4 : z3.cell? ⟨g3, 14, none⟩ = some (.int .i64 y.gen) := (blk_cell HS.out.b3 14).trans rfl
      go_wp2_with fail
      have hu4 := Aside0.mk (fun W : World => upR_calls y.gen W)
      by_cases u4 : upToB y.gen = true
      case neg =>
        have u' : upToB y.gen = false := by simpa using u4
        have hF : Aside0 (res = false) := ⟨by rw [hdef.out, u']; simp⟩
        rw [u'] at hu4
        clear u' u4 hdef
        refine (hu4.out _).mono ?_
        rintro e z4 ⟨rfl, hb⟩
        replace HS := Aside0.mk (HS.out.below hb)
        clear hb
        go_wp2_with fail
        go_ret
        exact ⟨by rw [hF.out] <;> rfl, HS.out.bl⟩
      rw [u4] at hu4 hdef
      clear u4
      refine (hu4.out _).mono ?_
      rintro e z4 ⟨rfl, hb⟩
      replace HS := Aside0.mk (HS.out.below hb)
      clear hb
      clear v4 hu4
      have v5 : z4.cell? ⟨g3, 17, none⟩ = some (.int .i64 y.prod) := (blk_cell HS.out.b3 17).trans rfl
      go_wp2_with fail
      have hu5 := Aside0.mk (fun W : World => upR_calls y.prod W)
      by_cases u5 : upToB y.prod = true
      case neg =>
        have u' : upToB y.prod = false := by simpa using u5
        have hF : Aside0 (res = false) := ⟨by rw [hdef.out, u']; simp⟩
        rw [u'] at hu5
        clear u' u5 hdef
        refine (hu5.out _).mono ?_
        rintro e z5 ⟨rfl, hb⟩
        replace HS := Aside0.mk (HS.out.below hb)
        clear hb
        go_wp2_with fail
        go_ret
        exact ⟨by rw [hF.out] <;> rfl, HS.out.bl⟩
      rw [u5] at hu5 hdef
      clear u5
      refine (hu5.out _).mono ?_
      rintro e z5 ⟨rfl, hb⟩
      replace HS := Aside0.mk (HS.out.below hb)
      clear hb
      clear v5 hu5
      have v6 : z5.cell? ⟨g3, 18, none⟩ = some (.int .i64 y.seq) := (blk_cell HS.out.b3 18).trans rfl
      go_wp2_with fail
      have hu6 := Aside0.mk (fun W : World => upR_calls y.seq W)
      by_cases u6 : upToB y.seq = true
      case neg =>
        have u' : upToB y.seq = false := by simpa using u6
        have hF : Aside0 (res = false) := ⟨by rw [hdef.out, u']; simp⟩
        rw [u'] at hu6
        clear u' u6 hdef
        refine (hu6.out _).mono ?_
        rintro e z6 ⟨rfl, hb⟩
        replace HS := Aside0.mk (HS.out.below hb)
        clear hb
        go_wp2_with fail
        go_ret
        exact ⟨by rw [hF.out] <;> rfl, HS.out.bl⟩
      rw [u6] at hu6 hdef
      clear u6
      refine (hu6.out _).mono ?_
      rintro e z6 ⟨rfl, hb⟩
      replace HS := Aside0.mk (HS.out.below hb)
      clear hb
      clear v6 hu6
      have v7 : z6.cell? ⟨g3, 6, none⟩ = some (.int .i64 y.tp) := (blk_cell HS.out.b3 6).trans rfl
      go_wp2_with fail
      have hu7 := Aside0.mk (fun W : World => upR_calls y.tp W)
      by_cases u7 : upToB y.tp = true
      case neg =>
        have u' : upToB y.tp = false := by simpa using u7
        have hF : Aside0 (res = false) := ⟨by rw [hdef.out, u']; simp⟩
        rw [u'] at hu7
        clear u' u7 hdef
        refine (hu7.out _).mono ?_
        rintro e z7 ⟨rfl, hb⟩
        replace HS := Aside0.mk (HS.out.below hb)
        clear hb
        go_wp2_with fail
        go_ret
        exact ⟨by rw [hF.out] <;> rfl, HS.out.bl⟩
      rw [u7] at hu7 hdef
      clear u7
      refine (hu7.out _).mono ?_
      rintro e z7 ⟨rfl, hb⟩
      replace HS := Aside0.mk (HS.out.below hb)
      clear hb
      clear v7 hu7
      have v8 : z7.cell? ⟨g3, 8, none⟩ = some (.int .i64 y.sp) := (blk_cell HS.out.b3 8).trans rfl
      go_wp2_with fail
      have hu8 := Aside0.mk (fun W : World => upR_calls y.sp W)
      by_cases u8 : upToB y.sp = true
      case neg =>
        have u' : upToB y.sp = false := by simpa using u8
        have hF : Aside0 (res = false) := ⟨by rw [hdef.out, u']; simp⟩
        rw [u'] at hu8
        clear u' u8 hdef
        refine (hu8.out _).mono ?_
        rintro e z8 ⟨rfl, hb⟩
        replace HS := Aside0.mk (HS.out.below hb)
        clear hb
        go_wp2_with fail
        go_ret
        exact ⟨by rw [hF.out] <;> rfl, HS.out.bl⟩
      rw [u8] at hu8 hdef
      clear u8
      refine (hu8.out _).mono ?_
      rintro e z8 ⟨rfl, hb⟩
      replace HS := Aside0.mk (HS.out.below hb)
      clear hb
      clear v8 hu8
      have v9 : z8.cell? ⟨g3, 9, none⟩ = some (.int .i64 y.sa) := (blk_cell HS.out.b3 9).trans rfl
      go_wp2_with fail
      have hu9 := Aside0.mk (fun W : World => upR_calls y.sa W)
      by_cases u9 : upToB y.sa = true
      case neg =>
        have u' : upToB y.sa = false := by simpa using u9
        have hF : Aside0 (res = false) := ⟨by rw [hdef.out, u']; simp⟩
        rw [u'] at hu9
        clear u' u9 hdef
        refine (hu9.out _).mono ?_
        rintro e z9 ⟨rfl, hb⟩
        replace HS := Aside0.mk (HS.out.below hb)
        clear hb
        go_wp2_with fail
        go_ret
        exact ⟨by rw [hF.out] <;> rfl, HS.out.bl⟩
      rw [u9] at hu9 hdef
      clear u9
      refine (hu9.out _).mono ?_
      rintro e z9 ⟨rfl, hb⟩
      replace HS := Aside0.mk (HS.out.below hb)
      clear hb
      clear v9 hu9
      have v10 : z9.cell? ⟨g3, 10, none⟩ = some (.int .i64 y.ss) := (blk_cell HS.out.b3 10).trans rfl
      go_wp2_with fail
      have hu10 := Aside0.mk (fun W : World => upR_calls y.ss W)
      by_cases u10 : upToB y.ss = true
      case neg =>
        have u' : upToB y.ss = false := by simpa using u10
        have hF : Aside0 (res = false) := ⟨by rw [hdef.out, u']; simp⟩
        rw [u'] at hu10
        clear u' u10 hdef
        refine (hu10.out _).mono ?_
        rintro e z10 ⟨rfl, hb⟩
        replace HS := Aside0.mk (HS.out.below hb)
        clear hb
        go_wp2_with fail
        go_ret
        exact ⟨by rw [hF.out] <;> rfl, HS.out.bl⟩
      rw [u10] at hu10 hdef
      clear u10
      refine (hu10.out _).mono ?_
      rintro e z10 ⟨rfl, hb⟩
      replace HS := Aside0.mk (HS.out.below hb)
      clear hb
      clear v10 hu10
      have hF : Aside0 (res = true) := ⟨by rw [hdef.out]; rfl⟩
      go_wp2_with fail
      go_ret
      exact ⟨by rw [hF.out] <;> rfl, HS.out.bl⟩
end Go.Proofs.Ytlgihjhlkpmpnaa.Wire
