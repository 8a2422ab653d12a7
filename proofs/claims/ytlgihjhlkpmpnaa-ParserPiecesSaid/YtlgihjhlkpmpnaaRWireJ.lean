import Derived.Test.YtlgihjhlkpmpnaaRWireI
namespace Go.Proofs.Ytlgihjhlkpmpnaa.Wire
set_option linter.unusedVariables false
set_option linter.unusedSimpArgs false
open Go.RowKit Go.Proofs.YtlgihjhlkpmpnaaW.PrintWords Go.Proofs.YtlgihjhlkpmpnaaW.PrintLast Go.Proofs.YtlgihjhlkpmpnaaW.PrintMore Go.Proofs.Ytlgihjhlkpmpnaa.Hand Go.Proofs.Ytlgihjhlkpmpnaa.PWire
section
attribute [local go_sem] max2_int min2_int max_two min_two max_three min_three max_four min_four
theorem eqA40 (d : Nat) (w : World) (x0 y0 : ByteArray) (x1 y1 : Int) :
    (Op.equalIn (d + 2) 40 (.agg #[.string x0, .int .i64 x1]) (.agg #[.string y0, .int .i64 y1])).run Try.prog w = .ok (x0.toList == y0.toList && (x1 == y1)) w := by
  refine eqA_of Try.underlying40 (by kernel_rfl) ?_
  refine eqf_cons (by rfl) (by go_simp; rfl) (by go_simp; rfl) (by go_simp) ?_
  exact eqf_last (by rfl) (by go_simp; rfl) (by go_simp; rfl) (by go_simp)
theorem eqA42 (d : Nat) (w : World) (x0 y0 : ByteArray) (x1 y1 : Int) (x2 y2 : Int) (x3 y3 : Int) (x4 y4 : Bool) :
    (Op.equalIn (d + 2) 42 (.agg #[.string x0, .int .i64 x1, .int .i64 x2, .int .i64 x3, .bool x4]) (.agg #[.string y0, .int .i64 y1, .int .i64 y2, .int .i64 y3, .bool y4])).run Try.prog w = .ok (x0.toList == y0.toList && (x1 == y1 && (x2 == y2 && (x3 == y3 && (x4 == y4))))) w := by
  refine eqA_of Try.underlying42 (by kernel_rfl) ?_
  refine eqf_cons (by rfl) (by go_simp; rfl) (by go_simp; rfl) (by go_simp) ?_
  refine eqf_cons (by rfl) (by go_simp; rfl) (by go_simp; rfl) (by go_simp) ?_
  refine eqf_cons (by rfl) (by go_simp; rfl) (by go_simp; rfl) (by go_simp) ?_
  refine eqf_cons (by rfl) (by go_simp; rfl) (by go_simp; rfl) (by go_simp) ?_
  exact eqf_last (by rfl) (by go_simp; rfl) (by go_simp; rfl) (by go_simp)
theorem eqA102 (d : Nat) (w : World) (x0 y0 : ByteArray) (x1 y1 : ByteArray) (x2 y2 : Bool) :
    (Op.equalIn (d + 2) 102 (.agg #[.string x0, .string x1, .bool x2]) (.agg #[.string y0, .string y1, .bool y2])).run Try.prog w = .ok (x0.toList == y0.toList && (x1.toList == y1.toList && (x2 == y2))) w := by
  refine eqA_of Try.underlying102 (by kernel_rfl) ?_
  refine eqf_cons (by rfl) (by go_simp; rfl) (by go_simp; rfl) (by go_simp) ?_
  refine eqf_cons (by rfl) (by go_simp; rfl) (by go_simp; rfl) (by go_simp) ?_
  exact eqf_last (by rfl) (by go_simp; rfl) (by go_simp; rfl) (by go_simp)
end
theorem same40 (w : World) (x0 : ByteArray) (x1 : Int) : (binOp .eql 40 (.agg #[.string x0, .int .i64 x1]) (.agg #[.string x0, .int .i64 x1])).run Try.prog w = .ok (.bool true) w := by
  simp only [binOp]
  simp [Op.equal, Op.maxDepth, eqA40 9998 w]
theorem same42 (w : World) (x0 : ByteArray) (x1 x2 x3 : Int) (x4 : Bool) : (binOp .eql 42 (.agg #[.string x0, .int .i64 x1, .int .i64 x2, .int .i64 x3, .bool x4]) (.agg #[.string x0, .int .i64 x1, .int .i64 x2, .int .i64 x3, .bool x4])).run Try.prog w = .ok (.bool true) w := by
  simp only [binOp]
  simp [Op.equal, Op.maxDepth, eqA42 9998 w]
theorem same102 (w : World) (x0 x1 : ByteArray) (x2 : Bool) : (binOp .neq 102 (.agg #[.string x0, .string x1, .bool x2]) (.agg #[.string x0, .string x1, .bool x2])).run Try.prog w = .ok (.bool false) w := by
  simp only [binOp]
  simp [Op.equal, Op.maxDepth, eqA102 9998 w]
structure Sq (w : World) (x : Rq) (xu xv : Value) (g1 g2 : Nat) (W : World) : Prop where
  b1 : W.heap[g1]? = some (.cells (x.cs xu) 45 (0, 0))
  b2 : W.heap[g2]? = some (.cells (x.cs xv) 45 (0, 0))
  bl : Below w.heap.size w W
theorem Sq.below {w : World} {x : Rq} {xu xv : Value} {g1 g2 : Nat} {W W' : World} (h : Sq w x xu xv g1 g2 W) (hb : Below W.heap.size W W') : Sq w x xu xv g1 g2 W' := ⟨blk_below h.b1 hb, blk_below h.b2 hb, below_step h.bl hb⟩
theorem rd_at (l : List S102) (i : Nat) (h : i < l.length) : rd_T102 l (i : Int) = l[i] := by
  unfold rd_T102
  rw [Int.toNat_natCast, List.getD_eq_getElem?_getD, List.getElem?_eq_getElem h]
  rfl
set_option maxHeartbeats 16000000 in
set_option maxRecDepth 100000 in
theorem same_calls (x : Rq) (A B : Option Addr) (k m : Nat) (l : List S102) (w : World) (hA : Kd.C k102 w A l.length l) (hB : Kd.C k102 w B l.length l) :
    Calls Try.prog 21 #[.agg #[.int .i64 x.id, .int .i64 x.kind, .int .i64 x.label, .string x.pt, .int .i64 x.pp, .string x.tt, .int .i64 x.tp, .string x.sn, .int .i64 x.sp, .int .i64 x.sa, .int .i64 x.ss, .bool x.sc, .string x.grp, .string x.mem, .int .i64 x.gen, .int .i64 x.off, .int .i64 x.most, .int .i64 x.prod, .int .i64 x.seq, .slice A l.length k], .agg #[.int .i64 x.id, .int .i64 x.kind, .int .i64 x.label, .string x.pt, .int .i64 x.pp, .string x.tt, .int .i64 x.tp, .string x.sn, .int .i64 x.sp, .int .i64 x.sa, .int .i64 x.ss, .bool x.sc, .string x.grp, .string x.mem, .int .i64 x.gen, .int .i64 x.off, .int .i64 x.most, .int .i64 x.prod, .int .i64 x.seq, .slice B l.length m]] w fun e w' => e = .returned (.bool true) ∧ Below w.heap.size w w' := by
  have HA := Aside0.mk hA
  have HB := Aside0.mk hB
  have hmx : l.length ≤ 9223372036854775807 := Kd.C_max hA
  clear hA hB

  go_enter Try.func21, Try.ntmps21
  go_wp2_with (first
    | ((with_reducible refine gate_dst (N := 2) rfl ?_); refine box_event rfl (N := 2) rfl (cs := #[.int .i64 x.id, .int .i64 x.kind, .int .i64 x.label, .string x.pt, .int .i64 x.pp, .string x.tt, .int .i64 x.tp, .string x.sn, .int .i64 x.sp, .int .i64 x.sa, .int .i64 x.ss, .bool x.sc, .string x.grp, .string x.mem, .int .i64 x.gen, .int .i64 x.off, .int .i64 x.most, .int .i64 x.prod, .int .i64 x.seq, .slice A l.length k]) (t := 45) ?hr ?_; (case hr => first | (go_simp; done) | (go_simp; rfl)); intro g1 hg1 w1 hbx hbl; have X := Aside0.mk hbx; have L := Aside0.mk hbl; clear hbx hbl hg1)
    | ((with_reducible refine gate_dst (N := 3) rfl ?_); refine box_event rfl (N := 3) rfl (cs := #[.int .i64 x.id, .int .i64 x.kind, .int .i64 x.label, .string x.pt, .int .i64 x.pp, .string x.tt, .int .i64 x.tp, .string x.sn, .int .i64 x.sp, .int .i64 x.sa, .int .i64 x.ss, .bool x.sc, .string x.grp, .string x.mem, .int .i64 x.gen, .int .i64 x.off, .int .i64 x.most, .int .i64 x.prod, .int .i64 x.seq, .slice B l.length m]) (t := 45) ?hr ?_; (case hr => first | (go_simp; done) | (go_simp; rfl)); intro g2 hg2 w2 hbx hbl; have HS : Aside0 (Sq w x (.slice A l.length k) (.slice B l.length m) g1 g2 w2) := ⟨⟨blk_below X.out hbl, hbx, below_step L.out hbl⟩⟩; clear X L hbx hbl hg2; have c19 : w2.cell? ⟨g1, 19, none⟩ = some (.slice A l.length k) := (blk_cell HS.out.b1 19).trans rfl; have d19 : w2.cell? ⟨g2, 19, none⟩ = some (.slice B l.length m) := (blk_cell HS.out.b2 19).trans rfl))

  clear c19 d19
  go_loopw [17] (fun iv wr => ∃ i : Nat, iv = .int .i64 i ∧ i ≤ l.length ∧ Aside0 (Sq w x (.slice A l.length k) (.slice B l.length m) g1 g2 wr)) (fun iv _ => l.length - (intOf iv).toNat)
  case atStart => exact ⟨0, rfl, Nat.zero_le _, HS⟩
  case round =>
    clear HS
    obtain ⟨i, rfl, hil, HS⟩ := hrel
    by_cases hlt : i < l.length
    · obtain ⟨ad, hAd, q0, q1, q2⟩ := at_T102 (Kd.C_below HA.out HS.out.bl) (i : Int) (by omega) (by omega)
      obtain ⟨bd, hBd, r0, r1, r2⟩ := at_T102 (Kd.C_below HB.out HS.out.bl) (i : Int) (by omega) (by omega)
      subst hAd
      subst hBd
      rw [rd_at l i hlt] at q0 q1 q2 r0 r1 r2
      simp only [Int.toNat_natCast] at q0 q1 q2 r0 r1 r2
      generalize l[i] = pr at *
      obtain ⟨key, hkey⟩ : ∃ key, pr.f0 = key := ⟨_, rfl⟩
      obtain ⟨val, hval⟩ : ∃ val, pr.f1 = val := ⟨_, rfl⟩
      obtain ⟨gone, hgone⟩ : ∃ gone, pr.f2 = gone := ⟨_, rfl⟩
      rw [hkey] at q0 r0
      rw [hval] at q1 r1
      rw [hgone] at q2 r2
      clear hkey hval hgone
      have d19 : wr.cell? ⟨g2, 19, none⟩ = some (.slice (some bd) l.length m) := (blk_cell HS.out.b2 19).trans rfl
      have hsm := fun W : World => same102 W key val gone
      have hi0 : (0 : Int) ≤ (i : Int) := by omega
      have hi1 : (i : Int) < (l.length : Int) := by omega
      have hb := below_alloc (Below.refl wr.heap.size wr) (.cells #[.string key, .string val, .bool gone] 102)
      have FF := Aside0.mk (And.intro (pw_cell_below hb d19) (And.intro (pw_cell_below hb r0) (And.intro (pw_cell_below hb r1) (pw_cell_below hb r2))))
      have GG := Aside0.mk (blk_new wr (.cells #[.string key, .string val, .bool gone] 102))
      have HS1 := Aside0.mk (HS.out.below hb)
      clear hb r0 r1 r2
      go_upto_region 6 with fail
      clear d19 q0 q1 q2 HS
      generalize wr.alloc (.cells #[.string key, .string val, .bool gone] 102) = W1 at *
      generalize wr.heap.size = g6 at *
      obtain ⟨d19, r0, r1, r2⟩ := FF.out
      have e0 : W1.cell? ⟨g6, 0, none⟩ = some (.string key) := (blk_cell GG.out 0).trans rfl
      have e1 : W1.cell? ⟨g6, 1, none⟩ = some (.string val) := (blk_cell GG.out 1).trans rfl
      have e2 : W1.cell? ⟨g6, 2, none⟩ = some (.bool gone) := (blk_cell GG.out 2).trans rfl
      clear FF GG
      go_quiet (fail)
      go_wp2_with fail
      go_roundw
      case rel => exact ⟨i + 1, by go_num, by omega, ⟨HS1.out.below (pw_below_drewN (Below.refl _ _) _)⟩⟩
      case measure => simp [intOf]; omega
    · have s40 := fun (W : World) (s : ByteArray) (n : Int) => same40 W s n
      have s42 := fun (W : World) => same42 W x.sn x.sp x.sa x.ss x.sc
      clear hil
      have c0 : wr.cell? ⟨g1, 0, none⟩ = some (.int .i64 x.id) := (blk_cell HS.out.b1 0).trans rfl
      have d0 : wr.cell? ⟨g2, 0, none⟩ = some (.int .i64 x.id) := (blk_cell HS.out.b2 0).trans rfl
      have c1 : wr.cell? ⟨g1, 1, none⟩ = some (.int .i64 x.kind) := (blk_cell HS.out.b1 1).trans rfl
      have d1 : wr.cell? ⟨g2, 1, none⟩ = some (.int .i64 x.kind) := (blk_cell HS.out.b2 1).trans rfl
      have c2 : wr.cell? ⟨g1, 2, none⟩ = some (.int .i64 x.label) := (blk_cell HS.out.b1 2).trans rfl
      have d2 : wr.cell? ⟨g2, 2, none⟩ = some (.int .i64 x.label) := (blk_cell HS.out.b2 2).trans rfl
      have c3 : wr.cell? ⟨g1, 3, none⟩ = some (.string x.pt) := (blk_cell HS.out.b1 3).trans rfl
      have d3 : wr.cell? ⟨g2, 3, none⟩ = some (.string x.pt) := (blk_cell HS.out.b2 3).trans rfl
      have c4 : wr.cell? ⟨g1, 4, none⟩ = some (.int .i64 x.pp) := (blk_cell HS.out.b1 4).trans rfl
      have d4 : wr.cell? ⟨g2, 4, none⟩ = some (.int .i64 x.pp) := (blk_cell HS.out.b2 4).trans rfl
      have c5 : wr.cell? ⟨g1, 5, none⟩ = some (.string x.tt) := (blk_cell HS.out.b1 5).trans rfl
      have d5 : wr.cell? ⟨g2, 5, none⟩ = some (.string x.tt) := (blk_cell HS.out.b2 5).trans rfl
      have c6 : wr.cell? ⟨g1, 6, none⟩ = some (.int .i64 x.tp) := (blk_cell HS.out.b1 6).trans rfl
      have d6 : wr.cell? ⟨g2, 6, none⟩ = some (.int .i64 x.tp) := (blk_cell HS.out.b2 6).trans rfl
      have c7 : wr.cell? ⟨g1, 7, none⟩ = some (.string x.sn) := (blk_cell HS.out.b1 7).trans rfl
      have d7 : wr.cell? ⟨g2, 7, none⟩ = some (.string x.sn) := (blk_cell HS.out.b2 7).trans rfl
      have c8 : wr.cell? ⟨g1, 8, none⟩ = some (.int .i64 x.sp) := (blk_cell HS.out.b1 8).trans rfl
      have d8 : wr.cell? ⟨g2, 8, none⟩ = some (.int .i64 x.sp) := (blk_cell HS.out.b2 8).trans rfl
      have c9 : wr.cell? ⟨g1, 9, none⟩ = some (.int .i64 x.sa) := (blk_cell HS.out.b1 9).trans rfl
      have d9 : wr.cell? ⟨g2, 9, none⟩ = some (.int .i64 x.sa) := (blk_cell HS.out.b2 9).trans rfl
      have c10 : wr.cell? ⟨g1, 10, none⟩ = some (.int .i64 x.ss) := (blk_cell HS.out.b1 10).trans rfl
      have d10 : wr.cell? ⟨g2, 10, none⟩ = some (.int .i64 x.ss) := (blk_cell HS.out.b2 10).trans rfl
      have c11 : wr.cell? ⟨g1, 11, none⟩ = some (.bool x.sc) := (blk_cell HS.out.b1 11).trans rfl
      have d11 : wr.cell? ⟨g2, 11, none⟩ = some (.bool x.sc) := (blk_cell HS.out.b2 11).trans rfl
      have c12 : wr.cell? ⟨g1, 12, none⟩ = some (.string x.grp) := (blk_cell HS.out.b1 12).trans rfl
      have d12 : wr.cell? ⟨g2, 12, none⟩ = some (.string x.grp) := (blk_cell HS.out.b2 12).trans rfl
      have c13 : wr.cell? ⟨g1, 13, none⟩ = some (.string x.mem) := (blk_cell HS.out.b1 13).trans rfl
      have d13 : wr.cell? ⟨g2, 13, none⟩ = some (.string x.mem) := (blk_cell HS.out.b2 13).trans rfl
      have c14 : wr.cell? ⟨g1, 14, none⟩ = some (.int .i64 x.gen) := (blk_cell HS.out.b1 14).trans rfl
      have d14 : wr.cell? ⟨g2, 14, none⟩ = some (.int .i64 x.gen) := (blk_cell HS.out.b2 14).trans rfl
      have c15 : wr.cell? ⟨g1, 15, none⟩ = some (.int .i64 x.off) := (blk_cell HS.out.b1 15).trans rfl
      have d15 : wr.cell? ⟨g2, 15, none⟩ = some (.int .i64 x.off) := (blk_cell HS.out.b2 15).trans rfl
      have c16 : wr.cell? ⟨g1, 16, none⟩ = some (.int .i64 x.most) := (blk_cell HS.out.b1 16).trans rfl
      have d16 : wr.cell? ⟨g2, 16, none⟩ = some (.int .i64 x.most) := (blk_cell HS.out.b2 16).trans rfl
      have c17 : wr.cell? ⟨g1, 17, none⟩ = some (.int .i64 x.prod) := (blk_cell HS.out.b1 17).trans rfl
      have d17 : wr.cell? ⟨g2, 17, none⟩ = some (.int .i64 x.prod) := (blk_cell HS.out.b2 17).trans rfl
      have c18 : wr.cell? ⟨g1, 18, none⟩ = some (.int .i64 x.seq) := (blk_cell HS.out.b1 18).trans rfl
      have d18 : wr.cell? ⟨g2, 18, none⟩ = some (.int .i64 x.seq) := (blk_cell HS.out.b2 18).trans rfl
      clear HA HB hmx
      go_wp2_with fail
      go_ret
      exact ⟨rfl, HS.out.bl⟩
end Go.Proofs.Ytlgihjhlkpmpnaa.Wire
