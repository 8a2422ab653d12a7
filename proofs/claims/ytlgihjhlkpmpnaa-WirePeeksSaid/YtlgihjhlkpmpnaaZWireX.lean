import Derived.Test.YtlgihjhlkpmpnaaZWireV
namespace Go.Proofs.Ytlgihjhlkpmpnaa.Wire
set_option linter.unusedVariables false
set_option linter.unusedSimpArgs false
open Go.RowKit Go.Proofs.YtlgihjhlkpmpnaaW.PrintWords Go.Proofs.YtlgihjhlkpmpnaaW.PrintLast Go.Proofs.YtlgihjhlkpmpnaaW.PrintMore Go.Proofs.Ytlgihjhlkpmpnaa.Hand Go.Proofs.Ytlgihjhlkpmpnaa.PWire Go.Proofs.Ytlgihjhlkpmpnaa.PureNums
/-- what the law goes through -/
def pairG (p : S102) : Bool := decide (p.f0.size ≤ 400) && decide (p.f1.size ≤ 400)
def smallB (y : Rq) (ps : List S102) : Bool := ps.all pairG && (decide (ps.length ≤ 30) && decide (y.pt.size ≤ 100) && decide (y.tt.size ≤ 100) && decide (y.grp.size ≤ 100) && decide (y.mem.size ≤ 100) && decide (y.sn.size ≤ 100))
set_option maxHeartbeats 16000000 in
set_option maxRecDepth 100000 in
theorem large_calls (y : Rq) (B : Option Addr) (m : Nat) (ps : List S102) (w : World) (hp : Prs w B ps.length m ps) :
    Calls Try.prog 29 #[.agg #[.int .i64 y.id, .int .i64 y.kind, .int .i64 y.label, .string y.pt, .int .i64 y.pp, .string y.tt, .int .i64 y.tp, .string y.sn, .int .i64 y.sp, .int .i64 y.sa, .int .i64 y.ss, .bool y.sc, .string y.grp, .string y.mem, .int .i64 y.gen, .int .i64 y.off, .int .i64 y.most, .int .i64 y.prod, .int .i64 y.seq, .slice B ps.length m]] w fun e w' => e = .returned (.bool (!smallB y ps)) ∧ Below w.heap.size w w' := by
  have hund : ∀ b, some undef = some (Value.bool b) → False := fun b h => by simp [undef] at h
  have HC := Aside0.mk hp.c
  have hmx := Kd.C_max hp.c
  have hdef : Aside0 (smallB y ps = (ps.all pairG && (decide (ps.length ≤ 30) && decide (y.pt.size ≤ 100) && decide (y.tt.size ≤ 100) && decide (y.grp.size ≤ 100) && decide (y.mem.size ≤ 100) && decide (y.sn.size ≤ 100)))) := ⟨rfl⟩
  generalize smallB y ps = res at *
  clear hp
  go_enter Try.func29, Try.ntmps29
  go_wp2_with (first
    | ((with_reducible refine gate_dst (N := 1) rfl ?_); refine box_event rfl (N := 1) rfl (cs := #[.int .i64 y.id, .int .i64 y.kind, .int .i64 y.label, .string y.pt, .int .i64 y.pp, .string y.tt, .int .i64 y.tp, .string y.sn, .int .i64 y.sp, .int .i64 y.sa, .int .i64 y.ss, .bool y.sc, .string y.grp, .string y.mem, .int .i64 y.gen, .int .i64 y.off, .int .i64 y.most, .int .i64 y.prod, .int .i64 y.seq, .slice B ps.length m]) (t := 45) ?hr ?_; (case hr => first | (go_simp; done) | (go_simp; rfl)); intro g1 hg1 w1 hbx hbl; have HS : Aside0 (Sz w y (.slice B ps.length m) g1 w1) := ⟨⟨hbx, hbl⟩⟩; clear hbx hbl hg1; have c19 : w1.cell? ⟨g1, 19, none⟩ = some (.slice B ps.length m) := (blk_cell HS.out.b3 19).trans rfl))
  clear c19
  go_loopw [8] (fun iv wr => ∃ i : Nat, iv = .int .i64 i ∧ i ≤ ps.length ∧ Aside0 ((ps.take i).all pairG = true) ∧ Aside0 (Sz w y (.slice B ps.length m) g1 wr)) (fun iv _ => ps.length - (intOf iv).toNat)
  case atStart => exact ⟨0, rfl, Nat.zero_le _, ⟨rfl⟩, HS⟩
  case round =>
    clear HS
    obtain ⟨i, rfl, hil, HA, HS⟩ := hrel
    by_cases hlt : i < ps.length
    · obtain ⟨ad, hAd, q0, q1, q2⟩ := at_T102 (Kd.C_below HC.out HS.out.bl) (i : Int) (by omega) (by omega)
      subst hAd
      rw [rd_at ps i hlt] at q0 q1 q2
      simp only [Int.toNat_natCast] at q0 q1 q2
      have hnx : Aside0 ((ps.take (i + 1)).all pairG = pairG ps[i]) := ⟨by rw [List.take_succ_eq_append_getElem hlt, List.all_append, HA.out]; simp⟩
      have hbad : Aside0 (pairG ps[i] = false → res = false) := ⟨fun h => by
        rw [hdef.out]
        have : ps.all pairG = false := by
          rw [Bool.eq_false_iff]
          intro q
          have := List.all_eq_true.mp q ps[i] (List.getElem_mem hlt)
          rw [h] at this
          exact absurd this (by simp)
        rw [this]
        rfl⟩
      have hpb : Aside0 (pairG ps[i] = (decide (ps[i].f0.size ≤ 400) && decide (ps[i].f1.size ≤ 400))) := ⟨rfl⟩
      generalize ps[i] = pr at *
      obtain ⟨key, hkey⟩ : ∃ key, pr.f0 = key := ⟨_, rfl⟩
      obtain ⟨val, hval⟩ : ∃ val, pr.f1 = val := ⟨_, rfl⟩
      obtain ⟨gone, hgone⟩ : ∃ gone, pr.f2 = gone := ⟨_, rfl⟩
      rw [hkey] at q0 hpb
      rw [hval] at q1 hpb
      rw [hgone] at q2
      clear hkey hval hgone
      have HB := Aside0.mk (HS.out.below (below_alloc (Below.refl wr.heap.size wr) (.cells #[.string key, .string val, .bool gone] 102)))
      by_cases k0 : key.size ≤ 400
      case neg =>
        have hF := Aside0.mk (hbad.out (by rw [hpb.out, decide_eq_false k0]; rfl))
        have t1 : (400 : Int) < (key.size : Int) := by omega
        clear hpb hbad hnx k0
        go_wp2_with fail
        go_ret
        exact ⟨by rw [hF.out] <;> rfl, HB.out.bl⟩
      by_cases k1 : val.size ≤ 400
      case neg =>
        have hF := Aside0.mk (hbad.out (by rw [hpb.out, decide_eq_false k1]; simp))
        have t1 : ¬ (400 : Int) < (key.size : Int) := by omega
        have t2 : (400 : Int) < (val.size : Int) := by omega
        clear hpb hbad hnx k0 k1
        go_wp2_with fail
        go_ret
        exact ⟨by rw [hF.out] <;> rfl, HB.out.bl⟩
      have hA2 : Aside0 ((ps.take (i + 1)).all pairG = true) := ⟨by rw [hnx.out, hpb.out, decide_eq_true k0, decide_eq_true k1]; rfl⟩
      have t1 : ¬ (400 : Int) < (key.size : Int) := by omega
      have t2 : ¬ (400 : Int) < (val.size : Int) := by omega
      clear hpb hbad hnx k0 k1 HA
      go_wp2_with fail
      go_roundw
      case rel => exact ⟨i + 1, by go_num, by omega, hA2, HB⟩
      case measure => simp [intOf]; omega
    · have hie : ps.take i = ps := List.take_of_length_le (by omega)
      rw [hie] at HA
      rw [HA.out, Bool.true_and] at hdef
      clear hie HA hil
      have c3 : wr.cell? ⟨g1, 3, none⟩ = some (.string y.pt) := (blk_cell HS.out.b3 3).trans rfl
      have c5 : wr.cell? ⟨g1, 5, none⟩ = some (.string y.tt) := (blk_cell HS.out.b3 5).trans rfl
      have c12 : wr.cell? ⟨g1, 12, none⟩ = some (.string y.grp) := (blk_cell HS.out.b3 12).trans rfl
      have c13 : wr.cell? ⟨g1, 13, none⟩ = some (.string y.mem) := (blk_cell HS.out.b3 13).trans rfl
      have c7 : wr.cell? ⟨g1, 7, none⟩ = some (.string y.sn) := (blk_cell HS.out.b3 7).trans rfl
      have c19 : wr.cell? ⟨g1, 19, none⟩ = some (.slice B ps.length m) := (blk_cell HS.out.b3 19).trans rfl
      by_cases s0 : ps.length ≤ 30
      case neg =>
        have hF : Aside0 (res = false) := ⟨by rw [hdef.out, decide_eq_false s0]; simp⟩
        have t0 : (30 : Int) < (ps.length : Int) := by omega
        clear s0 hdef
        go_wp2_with fail
        go_ret
        exact ⟨by rw [hF.out] <;> rfl, HS.out.bl⟩
      have t0 : ¬ (30 : Int) < (ps.length : Int) := by omega
      by_cases s1 : y.pt.size ≤ 100
      case neg =>
        have hF : Aside0 (res = false) := ⟨by rw [hdef.out, decide_eq_false s1]; simp⟩
        have t1 : (100 : Int) < (y.pt.size : Int) := by omega
        clear hdef s0 s1
        go_wp2_with fail
        go_ret
        exact ⟨by rw [hF.out] <;> rfl, HS.out.bl⟩
      have t1 : ¬ (100 : Int) < (y.pt.size : Int) := by omega
      by_cases s2 : y.tt.size ≤ 100
      case neg =>
        have hF : Aside0 (res = false) := ⟨by rw [hdef.out, decide_eq_false s2]; simp⟩
        have t2 : (100 : Int) < (y.tt.size : Int) := by omega
        clear hdef s0 s1 s2
        go_wp2_with fail
        go_ret
        exact ⟨by rw [hF.out] <;> rfl, HS.out.bl⟩
      have t2 : ¬ (100 : Int) < (y.tt.size : Int) := by omega
      by_cases s3 : y.grp.size ≤ 100
      case neg =>
        have hF : Aside0 (res = false) := ⟨by rw [hdef.out, decide_eq_false s3]; simp⟩
        have t3 : (100 : Int) < (y.grp.size : Int) := by omega
        clear hdef s0 s1 s2 s3
        go_wp2_with fail
        go_ret
        exact ⟨by rw [hF.out] <;> rfl, HS.out.bl⟩
      have t3 : ¬ (100 : Int) < (y.grp.size : Int) := by omega
      by_cases s4 : y.mem.size ≤ 100
      case neg =>
        have hF : Aside0 (res = false) := ⟨by rw [hdef.out, decide_eq_false s4]; simp⟩
        have t4 : (100 : Int) < (y.mem.size : Int) := by omega
        clear hdef s0 s1 s2 s3 s4
        go_wp2_with fail
        go_ret
        exact ⟨by rw [hF.out] <;> rfl, HS.out.bl⟩
      have t4 : ¬ (100 : Int) < (y.mem.size : Int) := by omega
      by_cases s5 : y.sn.size ≤ 100
      case neg =>
        have hF : Aside0 (res = false) := ⟨by rw [hdef.out, decide_eq_false s5]; simp⟩
        have t5 : (100 : Int) < (y.sn.size : Int) := by omega
        clear hdef s0 s1 s2 s3 s4 s5
        go_wp2_with fail
        go_ret
        exact ⟨by rw [hF.out] <;> rfl, HS.out.bl⟩
      have t5 : ¬ (100 : Int) < (y.sn.size : Int) := by omega
      rw [decide_eq_true s0, decide_eq_true s1, decide_eq_true s2, decide_eq_true s3, decide_eq_true s4, decide_eq_true s5] at hdef
      clear s0 s1 s2 s3 s4 s5
      have hF : Aside0 (res = true) := ⟨by rw [hdef.out]; rfl⟩
      go_wp2_with fail
      go_ret
      exact ⟨by rw [hF.out] <;> rfl, HS.out.bl⟩
end Go.Proofs.Ytlgihjhlkpmpnaa.Wire
