import Derived.Test.YtlgihjhlkpmpnaaQWireL2
-- halved
namespace Go.Proofs.Ytlgihjhlkpmpnaa.Wire
set_option linter.unusedVariables false
set_option linter.unusedSimpArgs false
open Go.RowKit Go.Proofs.YtlgihjhlkpmpnaaW.PrintWords Go.Proofs.YtlgihjhlkpmpnaaW.PrintLast Go.Proofs.YtlgihjhlkpmpnaaW.PrintMore Go.Proofs.Ytlgihjhlkpmpnaa.Hand Go.Proofs.Ytlgihjhlkpmpnaa.PWire Go.Proofs.Ytlgihjhlkpmpnaa.PureNums
def RefPost (w : World) (t : Rst) (e : Ending) (w' : World) : Prop := ∃ u, e = .returned (.tuple #[t.y.v u, .agg #[.string t.r.1, .bool t.r.2]]) ∧ Kd.R k102 102 w' w.heap.size (fun _ => True) u t.ps ∧ Below w.heap.size w w'
theorem low_calls (x : Rq) (r0 : Rd) (w : World) (hz : r0.1.size ≤ 100000) (h1 : 1 ≤ x.kind) (h2 : x.kind ≤ 4) : Calls Try.prog 82 #[.agg #[.string r0.1, .bool r0.2], .agg #[.int .i64 x.id, .int .i64 x.kind, .int .i64 x.label, .string x.pt, .int .i64 x.pp, .string x.tt, .int .i64 x.tp, .string x.sn, .int .i64 x.sp, .int .i64 x.sa, .int .i64 x.ss, .bool x.sc, .string x.grp, .string x.mem, .int .i64 x.gen, .int .i64 x.off, .int .i64 x.most, .int .i64 x.prod, .int .i64 x.seq, .slice none 0 0]] w (RefPost w (refF x r0)) := by
 rcases (show x.kind = 1 ∨ x.kind = 2 ∨ x.kind = 3 ∨ x.kind = 4 by omega) with h | h | h | h
 ·exact low1_calls x r0 w hz h
 ·exact low2_calls x r0 w hz h
 ·by_cases hv : (qNum (qNum (qNum (qNum (qText r0).2).2).2).2).1 > 1
  ·exact low3b_calls x r0 w hz h hv
  ·exact low3a_calls x r0 w hz h hv
 ·exact low4_calls x r0 w hz h
theorem mid_calls (x : Rq) (r0 : Rd) (w : World) (hz : r0.1.size ≤ 100000) (h1 : 5 ≤ x.kind) (h2 : x.kind ≤ 8) : Calls Try.prog 83 #[.agg #[.string r0.1, .bool r0.2], .agg #[.int .i64 x.id, .int .i64 x.kind, .int .i64 x.label, .string x.pt, .int .i64 x.pp, .string x.tt, .int .i64 x.tp, .string x.sn, .int .i64 x.sp, .int .i64 x.sa, .int .i64 x.ss, .bool x.sc, .string x.grp, .string x.mem, .int .i64 x.gen, .int .i64 x.off, .int .i64 x.most, .int .i64 x.prod, .int .i64 x.seq, .slice none 0 0]] w (RefPost w (refF x r0)) := by
 rcases (show x.kind = 5 ∨ x.kind = 6 ∨ x.kind = 7 ∨ x.kind = 8 by omega) with h | h | h | h
 ·exact mid5_calls x r0 w hz h
 ·exact mid6_calls x r0 w hz h
 ·exact mid7_calls x r0 w hz h
 ·exact mid8_calls x r0 w hz h
theorem high_calls (x : Rq) (r0 : Rd) (w : World) (hz : r0.1.size ≤ 100000) (h1 : 9 ≤ x.kind) (h2 : x.kind ≤ 12) : Calls Try.prog 84 #[.agg #[.string r0.1, .bool r0.2], .agg #[.int .i64 x.id, .int .i64 x.kind, .int .i64 x.label, .string x.pt, .int .i64 x.pp, .string x.tt, .int .i64 x.tp, .string x.sn, .int .i64 x.sp, .int .i64 x.sa, .int .i64 x.ss, .bool x.sc, .string x.grp, .string x.mem, .int .i64 x.gen, .int .i64 x.off, .int .i64 x.most, .int .i64 x.prod, .int .i64 x.seq, .slice none 0 0]] w (RefPost w (refF x r0)) := by
 rcases (show x.kind = 9 ∨ x.kind = 10 ∨ x.kind = 11 ∨ x.kind = 12 by omega) with h | h | h | h
 ·exact high9_calls x r0 w hz h
 ·exact high10_calls x r0 w hz h
 ·exact high11_calls x r0 w hz h
 ·exact high12_calls x r0 w hz h
set_option maxHeartbeats 16000000 in
set_option maxRecDepth 100000 in
theorem qfields_calls (x : Rq) (r0 : Rd) (w : World) (hz : r0.1.size ≤ 100000) :
  Calls Try.prog 55 #[.agg #[.string r0.1, .bool r0.2], .agg #[.int .i64 x.id, .int .i64 x.kind, .int .i64 x.label, .string x.pt, .int .i64 x.pp, .string x.tt, .int .i64 x.tp, .string x.sn, .int .i64 x.sp, .int .i64 x.sa, .int .i64 x.ss, .bool x.sc, .string x.grp, .string x.mem, .int .i64 x.gen, .int .i64 x.off, .int .i64 x.most, .int .i64 x.prod, .int .i64 x.seq, .slice none 0 0]] w (RefPost w (refF x r0)) := by
 have hund : ∀ b, some undef = some (Value.bool b) → False := fun b h => by simp [undef] at h
 have hdef : Aside0 (∀ e w', (∃ u, e = .returned (.tuple #[(refF x r0).y.v u, .agg #[.string (refF x r0).r.1, .bool (refF x r0).r.2]]) ∧ Kd.R k102 102 w' w.heap.size (fun _ => True) u (refF x r0).ps ∧ Below w.heap.size w w') → RefPost w (refF x r0) e w') := ⟨fun _ _ h => h⟩
 have hclo := Aside0.mk (low_calls x r0)
 have hcmi := Aside0.mk (mid_calls x r0)
 have hchi := Aside0.mk (high_calls x r0)
 have HZ := Aside0.mk hz
 obtain ⟨kd, hkd⟩ : ∃ kd, x.kind = kd := ⟨_, rfl⟩
 have hk := Aside0.mk hkd
 have hout : Aside0 (kd < 1 ∨ 12 < kd → refF x r0 = ⟨x, [], (⟨#[]⟩, true)⟩) := ⟨fun h => by
  unfold refF
  rw [hkd, if_neg (by omega), if_neg (by omega), if_neg (by omega), if_neg (by omega), if_neg (by omega), if_neg (by omega), if_neg (by omega), if_neg (by omega), if_neg (by omega), if_neg (by omega), if_neg (by omega), if_neg (by omega)]⟩
 generalize refF x r0 = tt at *
 clear hkd hz
 by_cases hc : kd < 1
 case pos =>
  have hF := Aside0.mk (hout.out (by omega))
  have t1 : kd < 1 := hc
  clear hc hclo hcmi hchi hout
  go_enter Try.func55, Try.ntmps55
  go_wp2_with (first
   | ((with_reducible refine gate_dst (N := 2) rfl ?_); refine box_event rfl (N := 2) rfl (cs := #[.string r0.1, .bool r0.2]) (t := 110) ?hr ?_; (case hr => first | (go_simp; done) | (go_simp; rfl)); intro gr0 hgr0 w1 hbx hbl; have X1 := Aside0.mk hbx; have L1 := Aside0.mk hbl; have M1 := Aside0.mk (Nat.le_of_eq hgr0.symm); clear hbx hbl hgr0)
   | ((with_reducible refine gate_dst (N := 3) rfl ?_); refine box_event rfl (N := 3) rfl (cs := #[.int .i64 x.id, .int .i64 x.kind, .int .i64 x.label, .string x.pt, .int .i64 x.pp, .string x.tt, .int .i64 x.tp, .string x.sn, .int .i64 x.sp, .int .i64 x.sa, .int .i64 x.ss, .bool x.sc, .string x.grp, .string x.mem, .int .i64 x.gen, .int .i64 x.off, .int .i64 x.most, .int .i64 x.prod, .int .i64 x.seq, .slice none 0 0]) (t := 45) ?hr ?_; (case hr => first | (go_simp; done) | (go_simp; rfl)); intro g3 hg3 w2 hbx hbl; have X2 := Aside0.mk (blk_below X1.out hbl); have Y2 := Aside0.mk hbx; have L2 := Aside0.mk (below_step L1.out hbl); have M2 := Aside0.mk (show w.heap.size ≤ g3 by rw [hg3]; exact L1.out.size); clear X1 L1 hbx hbl hg3)
   | ((with_reducible refine gate_dst (N := 4) rfl ?_); refine box_event rfl (N := 4) rfl (cs := #[.int .i64 0, .int .i64 0, .int .i64 0, .string ⟨#[]⟩, .int .i64 0, .string ⟨#[]⟩, .int .i64 0, .string ⟨#[]⟩, .int .i64 0, .int .i64 0, .int .i64 0, .bool false, .string ⟨#[]⟩, .string ⟨#[]⟩, .int .i64 0, .int .i64 0, .int .i64 0, .int .i64 0, .int .i64 0, .slice none 0 0]) (t := 45) ?hr ?_; (case hr => first | (go_simp; done) | (go_simp; rfl)); intro g4 hg4 w3 hbx hbl; have X3 := Aside0.mk (blk_below X2.out hbl); have Y3 := Aside0.mk (blk_below Y2.out hbl); have Z3 := Aside0.mk hbx; have L3 := Aside0.mk (below_step L2.out hbl); have M3 := Aside0.mk (show w.heap.size ≤ g4 by rw [hg4]; exact L2.out.size); have N3 := Aside0.mk (show g3 ≠ g4 by rw [hg4]; exact Nat.ne_of_lt (blk_lt Y2.out)); clear X2 Y2 L2 hbx hbl hg4)
   | ((with_reducible refine gate_dst (N := 5) rfl ?_); refine box_event rfl (N := 5) rfl (cs := #[.string ⟨#[]⟩, .bool false]) (t := 110) ?hr ?_; (case hr => first | (go_simp; done) | (go_simp; rfl)); intro g5 hg5 w4 hbx hbl; have HS : Aside0 (Sx w x (.slice none 0 0) g3 g4 g5 gr0 r0 [] w4) := ⟨⟨blk_below Y3.out hbl, blk_below Z3.out hbl, hbx, blk_below X3.out hbl, fun e he => by simp at he, below_step L3.out hbl, M2.out, M3.out, by rw [hg5]; exact L3.out.size, N3.out, by rw [hg5]; exact Nat.ne_of_lt (blk_lt X3.out)⟩⟩; clear X3 Y3 Z3 L3 M1 M2 M3 N3 hbx hbl hg5; have ck : w4.cell? ⟨g3, 1, none⟩ = some (.int .i64 kd) := ((blk_cell HS.out.b3 1).trans (show _ = some (Value.int .i64 x.kind) from rfl)).trans (by rw [hk.out]))
   | ((with_reducible refine gate_dst (N := 14) rfl ?_); refine load_ev (N := 14) rfl rfl rfl (cs := x.cs (.slice none 0 0)) rfl HS.out.b3 Try.underlying45 rfl (by kernel_rfl) ?_)
   | ((with_reducible refine gate_store (t := 45) (p := 4) rfl ?_); refine store_ev rfl rfl rfl (cells := (x).cs (.slice none 0 0)) rfl rfl HS.out.b4 (by kernel_rfl) rfl (by kernel_rfl) ?_; intro V1 hbx hgr; have B4 := Aside0.mk hbx; have Z5 := Aside0.mk (grown_at hgr HS.out.b5 (blk_types HS.out.b5 HS.out.b4 (by decide))); have HL := Aside0.mk (below_put HS.out.bl HS.out.l4 hgr HS.out.size); have L5 := Aside0.mk HS.out.l5; clear ck; clear HS hbx hgr)
   | ((with_reducible refine gate_store (t := 110) (p := 5) rfl ?_); refine store_ev rfl rfl rfl (cells := #[.string ⟨#[]⟩, .bool true]) rfl rfl Z5.out (by kernel_rfl) rfl (by kernel_rfl) ?_; intro V2 hbx hgr; have B5 := Aside0.mk hbx; have B4_ := Aside0.mk (grown_at hgr B4.out (blk_types B4.out Z5.out (by decide))); have HL_ := Aside0.mk (below_put HL.out L5.out hgr HL.out.size); clear B4 Z5 HL L5 hbx hgr; have B4 := B4_; have HL := HL_; clear B4_ HL_))
  refine bodyPost_ret (results_cc' rfl _ _ g4 g5 45 110 ((x).cs (.slice none 0 0)) #[.string ⟨#[]⟩, .bool true] (0, 0) (0, 0) _ _ rfl B4.out Try.underlying45 rfl (by kernel_rfl) rfl B5.out Try.underlying110 rfl (by kernel_rfl)) rfl ?_
  refine hdef.out _ _ ?_
  rw [hF.out]
  exact ⟨_, rfl, Kd.R_nil _ _ _ _ _, HL.out⟩
 by_cases hc : 12 < kd
 case pos =>
  have hF := Aside0.mk (hout.out (by omega))
  have t1 : ¬ kd < 1 := by omega
  have t2 : (12 : Int) < kd := hc
  clear hc hclo hcmi hchi hout
  go_enter Try.func55, Try.ntmps55
  go_wp2_with (first
   | ((with_reducible refine gate_dst (N := 2) rfl ?_); refine box_event rfl (N := 2) rfl (cs := #[.string r0.1, .bool r0.2]) (t := 110) ?hr ?_; (case hr => first | (go_simp; done) | (go_simp; rfl)); intro gr0 hgr0 w1 hbx hbl; have X1 := Aside0.mk hbx; have L1 := Aside0.mk hbl; have M1 := Aside0.mk (Nat.le_of_eq hgr0.symm); clear hbx hbl hgr0)
   | ((with_reducible refine gate_dst (N := 3) rfl ?_); refine box_event rfl (N := 3) rfl (cs := #[.int .i64 x.id, .int .i64 x.kind, .int .i64 x.label, .string x.pt, .int .i64 x.pp, .string x.tt, .int .i64 x.tp, .string x.sn, .int .i64 x.sp, .int .i64 x.sa, .int .i64 x.ss, .bool x.sc, .string x.grp, .string x.mem, .int .i64 x.gen, .int .i64 x.off, .int .i64 x.most, .int .i64 x.prod, .int .i64 x.seq, .slice none 0 0]) (t := 45) ?hr ?_; (case hr => first | (go_simp; done) | (go_simp; rfl)); intro g3 hg3 w2 hbx hbl; have X2 := Aside0.mk (blk_below X1.out hbl); have Y2 := Aside0.mk hbx; have L2 := Aside0.mk (below_step L1.out hbl); have M2 := Aside0.mk (show w.heap.size ≤ g3 by rw [hg3]; exact L1.out.size); clear X1 L1 hbx hbl hg3)
   | ((with_reducible refine gate_dst (N := 4) rfl ?_); refine box_event rfl (N := 4) rfl (cs := #[.int .i64 0, .int .i64 0, .int .i64 0, .string ⟨#[]⟩, .int .i64 0, .string ⟨#[]⟩, .int .i64 0, .string ⟨#[]⟩, .int .i64 0, .int .i64 0, .int .i64 0, .bool false, .string ⟨#[]⟩, .string ⟨#[]⟩, .int .i64 0, .int .i64 0, .int .i64 0, .int .i64 0, .int .i64 0, .slice none 0 0]) (t := 45) ?hr ?_; (case hr => first | (go_simp; done) | (go_simp; rfl)); intro g4 hg4 w3 hbx hbl; have X3 := Aside0.mk (blk_below X2.out hbl); have Y3 := Aside0.mk (blk_below Y2.out hbl); have Z3 := Aside0.mk hbx; have L3 := Aside0.mk (below_step L2.out hbl); have M3 := Aside0.mk (show w.heap.size ≤ g4 by rw [hg4]; exact L2.out.size); have N3 := Aside0.mk (show g3 ≠ g4 by rw [hg4]; exact Nat.ne_of_lt (blk_lt Y2.out)); clear X2 Y2 L2 hbx hbl hg4)
   | ((with_reducible refine gate_dst (N := 5) rfl ?_); refine box_event rfl (N := 5) rfl (cs := #[.string ⟨#[]⟩, .bool false]) (t := 110) ?hr ?_; (case hr => first | (go_simp; done) | (go_simp; rfl)); intro g5 hg5 w4 hbx hbl; have HS : Aside0 (Sx w x (.slice none 0 0) g3 g4 g5 gr0 r0 [] w4) := ⟨⟨blk_below Y3.out hbl, blk_below Z3.out hbl, hbx, blk_below X3.out hbl, fun e he => by simp at he, below_step L3.out hbl, M2.out, M3.out, by rw [hg5]; exact L3.out.size, N3.out, by rw [hg5]; exact Nat.ne_of_lt (blk_lt X3.out)⟩⟩; clear X3 Y3 Z3 L3 M1 M2 M3 N3 hbx hbl hg5; have ck : w4.cell? ⟨g3, 1, none⟩ = some (.int .i64 kd) := ((blk_cell HS.out.b3 1).trans (show _ = some (Value.int .i64 x.kind) from rfl)).trans (by rw [hk.out]))
   | ((with_reducible refine gate_dst (N := 14) rfl ?_); refine load_ev (N := 14) rfl rfl rfl (cs := x.cs (.slice none 0 0)) rfl HS.out.b3 Try.underlying45 rfl (by kernel_rfl) ?_)
   | ((with_reducible refine gate_store (t := 45) (p := 4) rfl ?_); refine store_ev rfl rfl rfl (cells := (x).cs (.slice none 0 0)) rfl rfl HS.out.b4 (by kernel_rfl) rfl (by kernel_rfl) ?_; intro V1 hbx hgr; have B4 := Aside0.mk hbx; have Z5 := Aside0.mk (grown_at hgr HS.out.b5 (blk_types HS.out.b5 HS.out.b4 (by decide))); have HL := Aside0.mk (below_put HS.out.bl HS.out.l4 hgr HS.out.size); have L5 := Aside0.mk HS.out.l5; clear ck; clear HS hbx hgr)
   | ((with_reducible refine gate_store (t := 110) (p := 5) rfl ?_); refine store_ev rfl rfl rfl (cells := #[.string ⟨#[]⟩, .bool true]) rfl rfl Z5.out (by kernel_rfl) rfl (by kernel_rfl) ?_; intro V2 hbx hgr; have B5 := Aside0.mk hbx; have B4_ := Aside0.mk (grown_at hgr B4.out (blk_types B4.out Z5.out (by decide))); have HL_ := Aside0.mk (below_put HL.out L5.out hgr HL.out.size); clear B4 Z5 HL L5 hbx hgr; have B4 := B4_; have HL := HL_; clear B4_ HL_))
  refine bodyPost_ret (results_cc' rfl _ _ g4 g5 45 110 ((x).cs (.slice none 0 0)) #[.string ⟨#[]⟩, .bool true] (0, 0) (0, 0) _ _ rfl B4.out Try.underlying45 rfl (by kernel_rfl) rfl B5.out Try.underlying110 rfl (by kernel_rfl)) rfl ?_
  refine hdef.out _ _ ?_
  rw [hF.out]
  exact ⟨_, rfl, Kd.R_nil _ _ _ _ _, HL.out⟩
 by_cases hdlo : kd ≤ 4
 case pos =>
  have hcall := Aside0.mk (fun W : World => hclo.out W HZ.out (by rw [hk.out]; omega) (by rw [hk.out]; omega))
  have t1 : ¬ kd < 1 := by omega
  have t2 : ¬ (12 : Int) < kd := by omega
  have t3 : kd ≤ 4 := hdlo
  clear hclo hcmi hchi hout
  go_enter Try.func55, Try.ntmps55
  go_wp2_with (first
   | ((with_reducible refine gate_dst (N := 2) rfl ?_); refine box_event rfl (N := 2) rfl (cs := #[.string r0.1, .bool r0.2]) (t := 110) ?hr ?_; (case hr => first | (go_simp; done) | (go_simp; rfl)); intro gr0 hgr0 w1 hbx hbl; have X1 := Aside0.mk hbx; have L1 := Aside0.mk hbl; have M1 := Aside0.mk (Nat.le_of_eq hgr0.symm); clear hbx hbl hgr0)
   | ((with_reducible refine gate_dst (N := 3) rfl ?_); refine box_event rfl (N := 3) rfl (cs := #[.int .i64 x.id, .int .i64 x.kind, .int .i64 x.label, .string x.pt, .int .i64 x.pp, .string x.tt, .int .i64 x.tp, .string x.sn, .int .i64 x.sp, .int .i64 x.sa, .int .i64 x.ss, .bool x.sc, .string x.grp, .string x.mem, .int .i64 x.gen, .int .i64 x.off, .int .i64 x.most, .int .i64 x.prod, .int .i64 x.seq, .slice none 0 0]) (t := 45) ?hr ?_; (case hr => first | (go_simp; done) | (go_simp; rfl)); intro g3 hg3 w2 hbx hbl; have X2 := Aside0.mk (blk_below X1.out hbl); have Y2 := Aside0.mk hbx; have L2 := Aside0.mk (below_step L1.out hbl); have M2 := Aside0.mk (show w.heap.size ≤ g3 by rw [hg3]; exact L1.out.size); clear X1 L1 hbx hbl hg3)
   | ((with_reducible refine gate_dst (N := 4) rfl ?_); refine box_event rfl (N := 4) rfl (cs := #[.int .i64 0, .int .i64 0, .int .i64 0, .string ⟨#[]⟩, .int .i64 0, .string ⟨#[]⟩, .int .i64 0, .string ⟨#[]⟩, .int .i64 0, .int .i64 0, .int .i64 0, .bool false, .string ⟨#[]⟩, .string ⟨#[]⟩, .int .i64 0, .int .i64 0, .int .i64 0, .int .i64 0, .int .i64 0, .slice none 0 0]) (t := 45) ?hr ?_; (case hr => first | (go_simp; done) | (go_simp; rfl)); intro g4 hg4 w3 hbx hbl; have X3 := Aside0.mk (blk_below X2.out hbl); have Y3 := Aside0.mk (blk_below Y2.out hbl); have Z3 := Aside0.mk hbx; have L3 := Aside0.mk (below_step L2.out hbl); have M3 := Aside0.mk (show w.heap.size ≤ g4 by rw [hg4]; exact L2.out.size); have N3 := Aside0.mk (show g3 ≠ g4 by rw [hg4]; exact Nat.ne_of_lt (blk_lt Y2.out)); clear X2 Y2 L2 hbx hbl hg4)
   | ((with_reducible refine gate_dst (N := 5) rfl ?_); refine box_event rfl (N := 5) rfl (cs := #[.string ⟨#[]⟩, .bool false]) (t := 110) ?hr ?_; (case hr => first | (go_simp; done) | (go_simp; rfl)); intro g5 hg5 w4 hbx hbl; have HS : Aside0 (Sx w x (.slice none 0 0) g3 g4 g5 gr0 r0 [] w4) := ⟨⟨blk_below Y3.out hbl, blk_below Z3.out hbl, hbx, blk_below X3.out hbl, fun e he => by simp at he, below_step L3.out hbl, M2.out, M3.out, by rw [hg5]; exact L3.out.size, N3.out, by rw [hg5]; exact Nat.ne_of_lt (blk_lt X3.out)⟩⟩; clear X3 Y3 Z3 L3 M1 M2 M3 N3 hbx hbl hg5; have ck : w4.cell? ⟨g3, 1, none⟩ = some (.int .i64 kd) := ((blk_cell HS.out.b3 1).trans (show _ = some (Value.int .i64 x.kind) from rfl)).trans (by rw [hk.out]))
   | ((with_reducible refine gate_dst (N := 19) rfl ?_); refine load_ev (N := 19) rfl rfl rfl (cs := #[.string r0.1, .bool r0.2]) rfl HS.out.br Try.underlying110 rfl (by kernel_rfl) ?_)
   | ((with_reducible refine gate_dst (N := 20) rfl ?_); refine load_ev (N := 20) rfl rfl rfl (cs := x.cs (.slice none 0 0)) rfl HS.out.b3 Try.underlying45 rfl (by kernel_rfl) ?_))
  have hsz := Aside0.mk HS.out.size
  refine (hcall.out _).mono ?_
  rintro e U1 ⟨u0, rfl, hr, hb⟩
  replace HS := Aside0.mk (HS.out.below hb)
  have HR := Aside0.mk (Kd.R_lower hr hsz.out)
  clear hr hb hsz ck
  obtain ⟨B2, m2, hu⟩ := Kd.R_slice HR.out
  subst hu
  go_wp2_with (first
   | ((with_reducible refine gate_store (t := 45) (p := 4) rfl ?_); refine store_ev rfl rfl rfl (cells := (tt.y).cs (.slice B2 tt.ps.length m2)) rfl rfl HS.out.b4 (by kernel_rfl) rfl (by kernel_rfl) ?_; intro V1 hbx hgr; have B4 := Aside0.mk hbx; have Z5 := Aside0.mk (grown_at hgr HS.out.b5 (blk_types HS.out.b5 HS.out.b4 (by decide))); have HL := Aside0.mk (below_put HS.out.bl HS.out.l4 hgr HS.out.size); have L5 := Aside0.mk HS.out.l5; have HR_ := Aside0.mk (pairs_grown HR.out hgr (fun cells e => by rw [HS.out.b4] at e; simp at e)); clear HR; have HR := HR_; clear HR_; clear HS hbx hgr)
   | ((with_reducible refine gate_store (t := 110) (p := 5) rfl ?_); refine store_ev rfl rfl rfl (cells := #[.string tt.r.1, .bool tt.r.2]) rfl rfl Z5.out (by kernel_rfl) rfl (by kernel_rfl) ?_; intro V2 hbx hgr; have B5 := Aside0.mk hbx; have B4_ := Aside0.mk (grown_at hgr B4.out (blk_types B4.out Z5.out (by decide))); have HL_ := Aside0.mk (below_put HL.out L5.out hgr HL.out.size); have HR_ := Aside0.mk (pairs_grown HR.out hgr (fun cells e => by rw [Z5.out] at e; simp at e)); clear HR; have HR := HR_; clear HR_; clear B4 Z5 HL L5 hbx hgr; have B4 := B4_; have HL := HL_; clear B4_ HL_))
  refine bodyPost_ret (results_cc' rfl _ _ g4 g5 45 110 ((tt.y).cs (.slice B2 tt.ps.length m2)) #[.string tt.r.1, .bool tt.r.2] (0, 0) (0, 0) _ _ rfl B4.out Try.underlying45 rfl (by kernel_rfl) rfl B5.out Try.underlying110 rfl (by kernel_rfl)) rfl ?_
  exact hdef.out _ _ ⟨_, rfl, HR.out, HL.out⟩
 by_cases hdmi : kd ≤ 8
 case pos =>
  have hcall := Aside0.mk (fun W : World => hcmi.out W HZ.out (by rw [hk.out]; omega) (by rw [hk.out]; omega))
  have t1 : ¬ kd < 1 := by omega
  have t2 : ¬ (12 : Int) < kd := by omega
  have t3 : ¬ kd ≤ 4 := by omega
  have t4 : kd ≤ 8 := hdmi
  clear hclo hcmi hchi hout
  go_enter Try.func55, Try.ntmps55
  go_wp2_with (first
   | ((with_reducible refine gate_dst (N := 2) rfl ?_); refine box_event rfl (N := 2) rfl (cs := #[.string r0.1, .bool r0.2]) (t := 110) ?hr ?_; (case hr => first | (go_simp; done) | (go_simp; rfl)); intro gr0 hgr0 w1 hbx hbl; have X1 := Aside0.mk hbx; have L1 := Aside0.mk hbl; have M1 := Aside0.mk (Nat.le_of_eq hgr0.symm); clear hbx hbl hgr0)
   | ((with_reducible refine gate_dst (N := 3) rfl ?_); refine box_event rfl (N := 3) rfl (cs := #[.int .i64 x.id, .int .i64 x.kind, .int .i64 x.label, .string x.pt, .int .i64 x.pp, .string x.tt, .int .i64 x.tp, .string x.sn, .int .i64 x.sp, .int .i64 x.sa, .int .i64 x.ss, .bool x.sc, .string x.grp, .string x.mem, .int .i64 x.gen, .int .i64 x.off, .int .i64 x.most, .int .i64 x.prod, .int .i64 x.seq, .slice none 0 0]) (t := 45) ?hr ?_; (case hr => first | (go_simp; done) | (go_simp; rfl)); intro g3 hg3 w2 hbx hbl; have X2 := Aside0.mk (blk_below X1.out hbl); have Y2 := Aside0.mk hbx; have L2 := Aside0.mk (below_step L1.out hbl); have M2 := Aside0.mk (show w.heap.size ≤ g3 by rw [hg3]; exact L1.out.size); clear X1 L1 hbx hbl hg3)
   | ((with_reducible refine gate_dst (N := 4) rfl ?_); refine box_event rfl (N := 4) rfl (cs := #[.int .i64 0, .int .i64 0, .int .i64 0, .string ⟨#[]⟩, .int .i64 0, .string ⟨#[]⟩, .int .i64 0, .string ⟨#[]⟩, .int .i64 0, .int .i64 0, .int .i64 0, .bool false, .string ⟨#[]⟩, .string ⟨#[]⟩, .int .i64 0, .int .i64 0, .int .i64 0, .int .i64 0, .int .i64 0, .slice none 0 0]) (t := 45) ?hr ?_; (case hr => first | (go_simp; done) | (go_simp; rfl)); intro g4 hg4 w3 hbx hbl; have X3 := Aside0.mk (blk_below X2.out hbl); have Y3 := Aside0.mk (blk_below Y2.out hbl); have Z3 := Aside0.mk hbx; have L3 := Aside0.mk (below_step L2.out hbl); have M3 := Aside0.mk (show w.heap.size ≤ g4 by rw [hg4]; exact L2.out.size); have N3 := Aside0.mk (show g3 ≠ g4 by rw [hg4]; exact Nat.ne_of_lt (blk_lt Y2.out)); clear X2 Y2 L2 hbx hbl hg4)
   | ((with_reducible refine gate_dst (N := 5) rfl ?_); refine box_event rfl (N := 5) rfl (cs := #[.string ⟨#[]⟩, .bool false]) (t := 110) ?hr ?_; (case hr => first | (go_simp; done) | (go_simp; rfl)); intro g5 hg5 w4 hbx hbl; have HS : Aside0 (Sx w x (.slice none 0 0) g3 g4 g5 gr0 r0 [] w4) := ⟨⟨blk_below Y3.out hbl, blk_below Z3.out hbl, hbx, blk_below X3.out hbl, fun e he => by simp at he, below_step L3.out hbl, M2.out, M3.out, by rw [hg5]; exact L3.out.size, N3.out, by rw [hg5]; exact Nat.ne_of_lt (blk_lt X3.out)⟩⟩; clear X3 Y3 Z3 L3 M1 M2 M3 N3 hbx hbl hg5; have ck : w4.cell? ⟨g3, 1, none⟩ = some (.int .i64 kd) := ((blk_cell HS.out.b3 1).trans (show _ = some (Value.int .i64 x.kind) from rfl)).trans (by rw [hk.out]))
   | ((with_reducible refine gate_dst (N := 27) rfl ?_); refine load_ev (N := 27) rfl rfl rfl (cs := #[.string r0.1, .bool r0.2]) rfl HS.out.br Try.underlying110 rfl (by kernel_rfl) ?_)
   | ((with_reducible refine gate_dst (N := 28) rfl ?_); refine load_ev (N := 28) rfl rfl rfl (cs := x.cs (.slice none 0 0)) rfl HS.out.b3 Try.underlying45 rfl (by kernel_rfl) ?_))
  have hsz := Aside0.mk HS.out.size
  refine (hcall.out _).mono ?_
  rintro e U1 ⟨u0, rfl, hr, hb⟩
  replace HS := Aside0.mk (HS.out.below hb)
  have HR := Aside0.mk (Kd.R_lower hr hsz.out)
  clear hr hb hsz ck
  obtain ⟨B2, m2, hu⟩ := Kd.R_slice HR.out
  subst hu
  go_wp2_with (first
   | ((with_reducible refine gate_store (t := 45) (p := 4) rfl ?_); refine store_ev rfl rfl rfl (cells := (tt.y).cs (.slice B2 tt.ps.length m2)) rfl rfl HS.out.b4 (by kernel_rfl) rfl (by kernel_rfl) ?_; intro V1 hbx hgr; have B4 := Aside0.mk hbx; have Z5 := Aside0.mk (grown_at hgr HS.out.b5 (blk_types HS.out.b5 HS.out.b4 (by decide))); have HL := Aside0.mk (below_put HS.out.bl HS.out.l4 hgr HS.out.size); have L5 := Aside0.mk HS.out.l5; have HR_ := Aside0.mk (pairs_grown HR.out hgr (fun cells e => by rw [HS.out.b4] at e; simp at e)); clear HR; have HR := HR_; clear HR_; clear HS hbx hgr)
   | ((with_reducible refine gate_store (t := 110) (p := 5) rfl ?_); refine store_ev rfl rfl rfl (cells := #[.string tt.r.1, .bool tt.r.2]) rfl rfl Z5.out (by kernel_rfl) rfl (by kernel_rfl) ?_; intro V2 hbx hgr; have B5 := Aside0.mk hbx; have B4_ := Aside0.mk (grown_at hgr B4.out (blk_types B4.out Z5.out (by decide))); have HL_ := Aside0.mk (below_put HL.out L5.out hgr HL.out.size); have HR_ := Aside0.mk (pairs_grown HR.out hgr (fun cells e => by rw [Z5.out] at e; simp at e)); clear HR; have HR := HR_; clear HR_; clear B4 Z5 HL L5 hbx hgr; have B4 := B4_; have HL := HL_; clear B4_ HL_))
  refine bodyPost_ret (results_cc' rfl _ _ g4 g5 45 110 ((tt.y).cs (.slice B2 tt.ps.length m2)) #[.string tt.r.1, .bool tt.r.2] (0, 0) (0, 0) _ _ rfl B4.out Try.underlying45 rfl (by kernel_rfl) rfl B5.out Try.underlying110 rfl (by kernel_rfl)) rfl ?_
  exact hdef.out _ _ ⟨_, rfl, HR.out, HL.out⟩
 have hcall := Aside0.mk (fun W : World => hchi.out W HZ.out (by rw [hk.out]; omega) (by rw [hk.out]; omega))
 have t1 : ¬ kd < 1 := by omega
 have t2 : ¬ (12 : Int) < kd := by omega
 have t3 : ¬ kd ≤ 4 := by omega
 have t4 : ¬ kd ≤ 8 := by omega
 clear hclo hcmi hchi hout
 go_enter Try.func55, Try.ntmps55
 go_wp2_with (first
  | ((with_reducible refine gate_dst (N := 2) rfl ?_); refine box_event rfl (N := 2) rfl (cs := #[.string r0.1, .bool r0.2]) (t := 110) ?hr ?_; (case hr => first | (go_simp; done) | (go_simp; rfl)); intro gr0 hgr0 w1 hbx hbl; have X1 := Aside0.mk hbx; have L1 := Aside0.mk hbl; have M1 := Aside0.mk (Nat.le_of_eq hgr0.symm); clear hbx hbl hgr0)
  | ((with_reducible refine gate_dst (N := 3) rfl ?_); refine box_event rfl (N := 3) rfl (cs := #[.int .i64 x.id, .int .i64 x.kind, .int .i64 x.label, .string x.pt, .int .i64 x.pp, .string x.tt, .int .i64 x.tp, .string x.sn, .int .i64 x.sp, .int .i64 x.sa, .int .i64 x.ss, .bool x.sc, .string x.grp, .string x.mem, .int .i64 x.gen, .int .i64 x.off, .int .i64 x.most, .int .i64 x.prod, .int .i64 x.seq, .slice none 0 0]) (t := 45) ?hr ?_; (case hr => first | (go_simp; done) | (go_simp; rfl)); intro g3 hg3 w2 hbx hbl; have X2 := Aside0.mk (blk_below X1.out hbl); have Y2 := Aside0.mk hbx; have L2 := Aside0.mk (below_step L1.out hbl); have M2 := Aside0.mk (show w.heap.size ≤ g3 by rw [hg3]; exact L1.out.size); clear X1 L1 hbx hbl hg3)
  | ((with_reducible refine gate_dst (N := 4) rfl ?_); refine box_event rfl (N := 4) rfl (cs := #[.int .i64 0, .int .i64 0, .int .i64 0, .string ⟨#[]⟩, .int .i64 0, .string ⟨#[]⟩, .int .i64 0, .string ⟨#[]⟩, .int .i64 0, .int .i64 0, .int .i64 0, .bool false, .string ⟨#[]⟩, .string ⟨#[]⟩, .int .i64 0, .int .i64 0, .int .i64 0, .int .i64 0, .int .i64 0, .slice none 0 0]) (t := 45) ?hr ?_; (case hr => first | (go_simp; done) | (go_simp; rfl)); intro g4 hg4 w3 hbx hbl; have X3 := Aside0.mk (blk_below X2.out hbl); have Y3 := Aside0.mk (blk_below Y2.out hbl); have Z3 := Aside0.mk hbx; have L3 := Aside0.mk (below_step L2.out hbl); have M3 := Aside0.mk (show w.heap.size ≤ g4 by rw [hg4]; exact L2.out.size); have N3 := Aside0.mk (show g3 ≠ g4 by rw [hg4]; exact Nat.ne_of_lt (blk_lt Y2.out)); clear X2 Y2 L2 hbx hbl hg4)
  | ((with_reducible refine gate_dst (N := 5) rfl ?_); refine box_event rfl (N := 5) rfl (cs := #[.string ⟨#[]⟩, .bool false]) (t := 110) ?hr ?_; (case hr => first | (go_simp; done) | (go_simp; rfl)); intro g5 hg5 w4 hbx hbl; have HS : Aside0 (Sx w x (.slice none 0 0) g3 g4 g5 gr0 r0 [] w4) := ⟨⟨blk_below Y3.out hbl, blk_below Z3.out hbl, hbx, blk_below X3.out hbl, fun e he => by simp at he, below_step L3.out hbl, M2.out, M3.out, by rw [hg5]; exact L3.out.size, N3.out, by rw [hg5]; exact Nat.ne_of_lt (blk_lt X3.out)⟩⟩; clear X3 Y3 Z3 L3 M1 M2 M3 N3 hbx hbl hg5; have ck : w4.cell? ⟨g3, 1, none⟩ = some (.int .i64 kd) := ((blk_cell HS.out.b3 1).trans (show _ = some (Value.int .i64 x.kind) from rfl)).trans (by rw [hk.out]))
  | ((with_reducible refine gate_dst (N := 32) rfl ?_); refine load_ev (N := 32) rfl rfl rfl (cs := #[.string r0.1, .bool r0.2]) rfl HS.out.br Try.underlying110 rfl (by kernel_rfl) ?_)
  | ((with_reducible refine gate_dst (N := 33) rfl ?_); refine load_ev (N := 33) rfl rfl rfl (cs := x.cs (.slice none 0 0)) rfl HS.out.b3 Try.underlying45 rfl (by kernel_rfl) ?_))
 have hsz := Aside0.mk HS.out.size
 refine (hcall.out _).mono ?_
 rintro e U1 ⟨u0, rfl, hr, hb⟩
 replace HS := Aside0.mk (HS.out.below hb)
 have HR := Aside0.mk (Kd.R_lower hr hsz.out)
 clear hr hb hsz ck
 obtain ⟨B2, m2, hu⟩ := Kd.R_slice HR.out
 subst hu
 go_wp2_with (first
  | ((with_reducible refine gate_store (t := 45) (p := 4) rfl ?_); refine store_ev rfl rfl rfl (cells := (tt.y).cs (.slice B2 tt.ps.length m2)) rfl rfl HS.out.b4 (by kernel_rfl) rfl (by kernel_rfl) ?_; intro V1 hbx hgr; have B4 := Aside0.mk hbx; have Z5 := Aside0.mk (grown_at hgr HS.out.b5 (blk_types HS.out.b5 HS.out.b4 (by decide))); have HL := Aside0.mk (below_put HS.out.bl HS.out.l4 hgr HS.out.size); have L5 := Aside0.mk HS.out.l5; have HR_ := Aside0.mk (pairs_grown HR.out hgr (fun cells e => by rw [HS.out.b4] at e; simp at e)); clear HR; have HR := HR_; clear HR_; clear HS hbx hgr)
  | ((with_reducible refine gate_store (t := 110) (p := 5) rfl ?_); refine store_ev rfl rfl rfl (cells := #[.string tt.r.1, .bool tt.r.2]) rfl rfl Z5.out (by kernel_rfl) rfl (by kernel_rfl) ?_; intro V2 hbx hgr; have B5 := Aside0.mk hbx; have B4_ := Aside0.mk (grown_at hgr B4.out (blk_types B4.out Z5.out (by decide))); have HL_ := Aside0.mk (below_put HL.out L5.out hgr HL.out.size); have HR_ := Aside0.mk (pairs_grown HR.out hgr (fun cells e => by rw [Z5.out] at e; simp at e)); clear HR; have HR := HR_; clear HR_; clear B4 Z5 HL L5 hbx hgr; have B4 := B4_; have HL := HL_; clear B4_ HL_))
 refine bodyPost_ret (results_cc' rfl _ _ g4 g5 45 110 ((tt.y).cs (.slice B2 tt.ps.length m2)) #[.string tt.r.1, .bool tt.r.2] (0, 0) (0, 0) _ _ rfl B4.out Try.underlying45 rfl (by kernel_rfl) rfl B5.out Try.underlying110 rfl (by kernel_rfl)) rfl ?_
 exact hdef.out _ _ ⟨_, rfl, HR.out, HL.out⟩
end Go.Proofs.Ytlgihjhlkpmpnaa.Wire
