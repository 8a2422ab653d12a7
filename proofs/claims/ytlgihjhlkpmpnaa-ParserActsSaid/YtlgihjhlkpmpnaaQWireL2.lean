import Derived.Test.YtlgihjhlkpmpnaaQWireL
-- halved
namespace Go.Proofs.Ytlgihjhlkpmpnaa.Wire
set_option linter.unusedVariables false
set_option linter.unusedSimpArgs false
open Go.RowKit Go.Proofs.YtlgihjhlkpmpnaaW.PrintWords Go.Proofs.YtlgihjhlkpmpnaaW.PrintLast Go.Proofs.YtlgihjhlkpmpnaaW.PrintMore Go.Proofs.Ytlgihjhlkpmpnaa.Hand Go.Proofs.Ytlgihjhlkpmpnaa.PWire Go.Proofs.Ytlgihjhlkpmpnaa.PureNums
theorem memberF_size (x : Rq) (r : Rd) : (memberF x r).2.1.size ≤ r.1.size := Nat.le_trans (qText_size _) (qText_size r)
set_option maxHeartbeats 16000000 in
set_option maxRecDepth 100000 in
theorem mid6_calls (x : Rq) (r0 : Rd) (w : World) (hz : r0.1.size ≤ 100000) (hk0 : x.kind = 6) :
  Calls Try.prog 83 #[.agg #[.string r0.1, .bool r0.2], .agg #[.int .i64 x.id, .int .i64 x.kind, .int .i64 x.label, .string x.pt, .int .i64 x.pp, .string x.tt, .int .i64 x.tp, .string x.sn, .int .i64 x.sp, .int .i64 x.sa, .int .i64 x.ss, .bool x.sc, .string x.grp, .string x.mem, .int .i64 x.gen, .int .i64 x.off, .int .i64 x.most, .int .i64 x.prod, .int .i64 x.seq, .slice none 0 0]] w fun e w' => ∃ u, e = .returned (.tuple #[(refF x r0).y.v u, .agg #[.string (refF x r0).r.1, .bool (refF x r0).r.2]]) ∧ Kd.R k102 102 w' w.heap.size (fun _ => True) u (refF x r0).ps ∧ Below w.heap.size w w' := by
 have z0 : r0.1.size ≤ 100000 := hz
 have h1 := fun W : World => member_calls x r0 W z0
 have z1 := Nat.le_trans (memberF_size x r0) z0
 obtain ⟨ym, r1, e1⟩ : ∃ v r, memberF x r0 = (v, r) := ⟨_, _, rfl⟩
 rw [e1] at h1 z1
 have h1 := Aside0.mk h1
 have HF : Aside0 (refF x r0 = ⟨ym, [], r1⟩) := ⟨by unfold refF; rw [if_neg (show ¬ x.kind = 3 by omega), if_neg (show ¬ x.kind = 4 by omega), if_neg (show ¬ x.kind = 2 by omega), if_neg (show ¬ x.kind = 1 by omega), if_pos hk0]; simp only [e1]⟩
 have hk := Aside0.mk hk0
 clear e1 z0 hz hk0 z1
 go_enter Try.func83, Try.ntmps83
 go_wp2_with (first
  | ((with_reducible refine gate_dst (N := 2) rfl ?_); refine box_event rfl (N := 2) rfl (cs := #[.string r0.1, .bool r0.2]) (t := 110) ?hr ?_; (case hr => first | (go_simp; done) | (go_simp; rfl)); intro gr0 hgr0 w1 hbx hbl; have X1 := Aside0.mk hbx; have L1 := Aside0.mk hbl; have M1 := Aside0.mk (Nat.le_of_eq hgr0.symm); clear hbx hbl hgr0)
  | ((with_reducible refine gate_dst (N := 3) rfl ?_); refine box_event rfl (N := 3) rfl (cs := #[.int .i64 x.id, .int .i64 x.kind, .int .i64 x.label, .string x.pt, .int .i64 x.pp, .string x.tt, .int .i64 x.tp, .string x.sn, .int .i64 x.sp, .int .i64 x.sa, .int .i64 x.ss, .bool x.sc, .string x.grp, .string x.mem, .int .i64 x.gen, .int .i64 x.off, .int .i64 x.most, .int .i64 x.prod, .int .i64 x.seq, .slice none 0 0]) (t := 45) ?hr ?_; (case hr => first | (go_simp; done) | (go_simp; rfl)); intro g3 hg3 w2 hbx hbl; have X2 := Aside0.mk (blk_below X1.out hbl); have Y2 := Aside0.mk hbx; have L2 := Aside0.mk (below_step L1.out hbl); have M2 := Aside0.mk (show w.heap.size ≤ g3 by rw [hg3]; exact L1.out.size); clear X1 L1 hbx hbl hg3)
  | ((with_reducible refine gate_dst (N := 4) rfl ?_); refine box_event rfl (N := 4) rfl (cs := #[.int .i64 0, .int .i64 0, .int .i64 0, .string ⟨#[]⟩, .int .i64 0, .string ⟨#[]⟩, .int .i64 0, .string ⟨#[]⟩, .int .i64 0, .int .i64 0, .int .i64 0, .bool false, .string ⟨#[]⟩, .string ⟨#[]⟩, .int .i64 0, .int .i64 0, .int .i64 0, .int .i64 0, .int .i64 0, .slice none 0 0]) (t := 45) ?hr ?_; (case hr => first | (go_simp; done) | (go_simp; rfl)); intro g4 hg4 w3 hbx hbl; have X3 := Aside0.mk (blk_below X2.out hbl); have Y3 := Aside0.mk (blk_below Y2.out hbl); have Z3 := Aside0.mk hbx; have L3 := Aside0.mk (below_step L2.out hbl); have M3 := Aside0.mk (show w.heap.size ≤ g4 by rw [hg4]; exact L2.out.size); have N3 := Aside0.mk (show g3 ≠ g4 by rw [hg4]; exact Nat.ne_of_lt (blk_lt Y2.out)); clear X2 Y2 L2 hbx hbl hg4)
  | ((with_reducible refine gate_dst (N := 5) rfl ?_); refine box_event rfl (N := 5) rfl (cs := #[.string ⟨#[]⟩, .bool false]) (t := 110) ?hr ?_; (case hr => first | (go_simp; done) | (go_simp; rfl)); intro g5 hg5 w4 hbx hbl; have HS : Aside0 (Sx w x (.slice none 0 0) g3 g4 g5 gr0 r0 [] w4) := ⟨⟨blk_below Y3.out hbl, blk_below Z3.out hbl, hbx, blk_below X3.out hbl, fun e he => by simp at he, below_step L3.out hbl, M2.out, M3.out, by rw [hg5]; exact L3.out.size, N3.out, by rw [hg5]; exact Nat.ne_of_lt (blk_lt X3.out)⟩⟩; clear X3 Y3 Z3 L3 M1 M2 M3 N3 hbx hbl hg5; )
  | ((with_reducible refine gate_dst (N := 17) rfl ?_); refine load_ev (N := 17) rfl rfl rfl (cs := #[.string r0.1, .bool r0.2]) rfl HS.out.br Try.underlying110 rfl (by kernel_rfl) ?_)
  | ((with_reducible refine gate_dst (N := 18) rfl ?_); refine load_ev (N := 18) rfl rfl rfl (cs := x.cs (.slice none 0 0)) rfl HS.out.b3 Try.underlying45 rfl (by kernel_rfl) ?_))
 refine (h1.out _).mono ?_
 rintro e U1 ⟨rfl, hb⟩
 replace HS := Aside0.mk (HS.out.below hb)
 clear hb
 go_upto_region 2 with (first
  | ((with_reducible refine gate_dst (N := 6) rfl ?_); refine box_event rfl (N := 6) rfl (cs := #[.int .i64 0, .int .i64 0, .int .i64 0, .string ⟨#[]⟩, .int .i64 0, .string ⟨#[]⟩, .int .i64 0, .string ⟨#[]⟩, .int .i64 0, .int .i64 0, .int .i64 0, .bool false, .string ⟨#[]⟩, .string ⟨#[]⟩, .int .i64 0, .int .i64 0, .int .i64 0, .int .i64 0, .int .i64 0, .slice none 0 0]) (t := 45) ?hr ?_; (case hr => first | (go_simp; done) | (go_simp; rfl)); intro g6 hg6 W6 hbx hbl; have F6 := Aside0.mk (show g3 ≠ g6 ∧ g6 ≠ g4 ∧ w.heap.size ≤ g6 ∧ ∀ e ∈ ([] : List (Nat × Obj)), e.1 ≠ g6 from ⟨by rw [hg6]; exact Nat.ne_of_lt (blk_lt HS.out.b3), by rw [hg6]; exact Nat.ne_of_gt (blk_lt HS.out.b4), by rw [hg6]; exact HS.out.size, fun e he => by simp at he⟩); have HS_ := Aside0.mk (HS.out.below hbl); have Z6 := Aside0.mk hbx; clear HS hbl hbx hg6; have HS := HS_; clear HS_)
  | ((with_reducible refine gate_dst (N := 7) rfl ?_); refine box_event rfl (N := 7) rfl (cs := #[.string ⟨#[]⟩, .bool false]) (t := 110) ?hr ?_; (case hr => first | (go_simp; done) | (go_simp; rfl)); intro ga hga W7 hbx hbl; have HS_ := Aside0.mk (HS.out.below hbl); have Zr := Aside0.mk hbx; have Fr_ := Aside0.mk (HS.out.fresh hga); have Fr := Aside0.mk (fresh_cons (ob := .cells (x.cs (.slice none 0 0)) 45 (0, 0)) Fr_.out (show g3 ≠ ga by rw [hga]; exact Nat.ne_of_lt (blk_lt HS.out.b3))); have Y6 := Aside0.mk (blk_below Z6.out hbl); clear HS Z6 Fr_ hbl hbx hga; have HS := HS_; clear HS_)
  | ((with_reducible refine gate_store (t := 45) (p := 6) rfl ?_); refine store_ev rfl rfl rfl (cells := ym.cs (.slice none 0 0)) rfl rfl Y6.out (by kernel_rfl) rfl (by kernel_rfl) ?_; intro V6 hbx hgr; have HS_ := Aside0.mk (HS.out.move (y' := ym) (yu' := .slice none 0 0) Y6.out hbx hgr F6.out); have Zr_ := Aside0.mk (grown_at hgr Zr.out (blk_types Zr.out Y6.out (by decide))); clear HS Zr Y6 F6 hbx hgr; have HS := HS_; have Zr := Zr_; clear HS_ Zr_)
  | ((with_reducible refine gate_store (t := 110) (p := 7) rfl ?_); refine store_ev rfl rfl rfl (cells := #[.string r1.1, .bool r1.2]) rfl rfl Zr.out (by kernel_rfl) rfl (by kernel_rfl) ?_; intro V7 hbx hgr; have HS_ := Aside0.mk (HS.out.reader (r' := r1) Zr.out hbx hgr Fr.out); clear HS Zr Fr hbx hgr; have HS := HS_; clear HS_))
 have x0 := (HS.out.ex (g3, .cells (x.cs (.slice none 0 0)) 45 (0, 0)) (by simp)).1
 have ck := ((blk_cell x0 1).trans (show _ = some (Value.int .i64 x.kind) from rfl)).trans (by rw [hk.out] : _ = some (Value.int .i64 6))
 clear x0
 go_upto_region 3 with fail
 clear ck
 refine ret_pair _ _ _ _ (by kernel_rfl) rfl rfl rfl rfl rfl (by kernel_rfl) (fun _ _ _ _ _ h => h) (d0 := 25) (d1 := 26) (p0 := 6) (p1 := 7) (p2 := 4) (p3 := 5) (T1 := 45) (T2 := 110) rfl rfl rfl rfl rfl rfl rfl rfl rfl rfl rfl rfl HS.out.b3 HS.out.br HS.out.b4 HS.out.b5 Try.underlying45 rfl (by kernel_rfl) Try.underlying110 rfl (by kernel_rfl) rfl rfl (by kernel_rfl) (by kernel_rfl) rfl rfl rfl rfl rfl rfl HS.out.n34 (blk_types HS.out.b3 HS.out.b5 (by decide)) (blk_types HS.out.br HS.out.b4 (by decide)) HS.out.n5r (blk_types HS.out.b4 HS.out.b5 (by decide)) ?_
 intro V b4 b5 hgr
 have HL := Aside0.mk (hgr.below HS.out.bl HS.out.l4 HS.out.l5 HS.out.size)
 have B4 := Aside0.mk b4
 have B5 := Aside0.mk b5
 clear b4 b5 hgr HS
 go_wp2_with fail
 refine bodyPost_ret (results_cc' rfl _ _ g4 g5 45 110 ((ym).cs (.slice none 0 0)) #[.string r1.1, .bool r1.2] (0, 0) (0, 0) _ _ rfl B4.out Try.underlying45 rfl (by kernel_rfl) rfl B5.out Try.underlying110 rfl (by kernel_rfl)) rfl ?_
 rw [HF.out]
 exact ⟨_, rfl, Kd.R_nil _ _ _ _ _, HL.out⟩
set_option maxHeartbeats 16000000 in
set_option maxRecDepth 100000 in
theorem mid5_calls (x : Rq) (r0 : Rd) (w : World) (hz : r0.1.size ≤ 100000) (hk0 : x.kind = 5) :
  Calls Try.prog 83 #[.agg #[.string r0.1, .bool r0.2], .agg #[.int .i64 x.id, .int .i64 x.kind, .int .i64 x.label, .string x.pt, .int .i64 x.pp, .string x.tt, .int .i64 x.tp, .string x.sn, .int .i64 x.sp, .int .i64 x.sa, .int .i64 x.ss, .bool x.sc, .string x.grp, .string x.mem, .int .i64 x.gen, .int .i64 x.off, .int .i64 x.most, .int .i64 x.prod, .int .i64 x.seq, .slice none 0 0]] w fun e w' => ∃ u, e = .returned (.tuple #[(refF x r0).y.v u, .agg #[.string (refF x r0).r.1, .bool (refF x r0).r.2]]) ∧ Kd.R k102 102 w' w.heap.size (fun _ => True) u (refF x r0).ps ∧ Below w.heap.size w w' := by
 have z0 : r0.1.size ≤ 100000 := hz
 have h1 := fun W : World => member_calls x r0 W z0
 have z1 := Nat.le_trans (memberF_size x r0) z0
 obtain ⟨ym, r1, e1⟩ : ∃ v r, memberF x r0 = (v, r) := ⟨_, _, rfl⟩
 rw [e1] at h1 z1
 have h1 := Aside0.mk h1
 have h2 := fun W : World => qtext_calls r1 (by exact z1) W
 obtain ⟨v2, r2, e2⟩ : ∃ v r, qText r1 = (v, r) := ⟨_, _, rfl⟩
 rw [e2] at h2
 have h2 := Aside0.mk h2
 have HF : Aside0 (refF x r0 = ⟨{ym with pt := v2}, [], r2⟩) := ⟨by unfold refF; rw [if_neg (show ¬ x.kind = 3 by omega), if_neg (show ¬ x.kind = 4 by omega), if_neg (show ¬ x.kind = 2 by omega), if_neg (show ¬ x.kind = 1 by omega), if_neg (show ¬ x.kind = 6 by omega), if_pos hk0]; simp only [e1, e2]⟩
 have hk := Aside0.mk hk0
 clear e1 e2 z0 z1 hz hk0
 go_enter Try.func83, Try.ntmps83
 go_wp2_with (first
  | ((with_reducible refine gate_dst (N := 2) rfl ?_); refine box_event rfl (N := 2) rfl (cs := #[.string r0.1, .bool r0.2]) (t := 110) ?hr ?_; (case hr => first | (go_simp; done) | (go_simp; rfl)); intro gr0 hgr0 w1 hbx hbl; have X1 := Aside0.mk hbx; have L1 := Aside0.mk hbl; have M1 := Aside0.mk (Nat.le_of_eq hgr0.symm); clear hbx hbl hgr0)
  | ((with_reducible refine gate_dst (N := 3) rfl ?_); refine box_event rfl (N := 3) rfl (cs := #[.int .i64 x.id, .int .i64 x.kind, .int .i64 x.label, .string x.pt, .int .i64 x.pp, .string x.tt, .int .i64 x.tp, .string x.sn, .int .i64 x.sp, .int .i64 x.sa, .int .i64 x.ss, .bool x.sc, .string x.grp, .string x.mem, .int .i64 x.gen, .int .i64 x.off, .int .i64 x.most, .int .i64 x.prod, .int .i64 x.seq, .slice none 0 0]) (t := 45) ?hr ?_; (case hr => first | (go_simp; done) | (go_simp; rfl)); intro g3 hg3 w2 hbx hbl; have X2 := Aside0.mk (blk_below X1.out hbl); have Y2 := Aside0.mk hbx; have L2 := Aside0.mk (below_step L1.out hbl); have M2 := Aside0.mk (show w.heap.size ≤ g3 by rw [hg3]; exact L1.out.size); clear X1 L1 hbx hbl hg3)
  | ((with_reducible refine gate_dst (N := 4) rfl ?_); refine box_event rfl (N := 4) rfl (cs := #[.int .i64 0, .int .i64 0, .int .i64 0, .string ⟨#[]⟩, .int .i64 0, .string ⟨#[]⟩, .int .i64 0, .string ⟨#[]⟩, .int .i64 0, .int .i64 0, .int .i64 0, .bool false, .string ⟨#[]⟩, .string ⟨#[]⟩, .int .i64 0, .int .i64 0, .int .i64 0, .int .i64 0, .int .i64 0, .slice none 0 0]) (t := 45) ?hr ?_; (case hr => first | (go_simp; done) | (go_simp; rfl)); intro g4 hg4 w3 hbx hbl; have X3 := Aside0.mk (blk_below X2.out hbl); have Y3 := Aside0.mk (blk_below Y2.out hbl); have Z3 := Aside0.mk hbx; have L3 := Aside0.mk (below_step L2.out hbl); have M3 := Aside0.mk (show w.heap.size ≤ g4 by rw [hg4]; exact L2.out.size); have N3 := Aside0.mk (show g3 ≠ g4 by rw [hg4]; exact Nat.ne_of_lt (blk_lt Y2.out)); clear X2 Y2 L2 hbx hbl hg4)
  | ((with_reducible refine gate_dst (N := 5) rfl ?_); refine box_event rfl (N := 5) rfl (cs := #[.string ⟨#[]⟩, .bool false]) (t := 110) ?hr ?_; (case hr => first | (go_simp; done) | (go_simp; rfl)); intro g5 hg5 w4 hbx hbl; have HS : Aside0 (Sx w x (.slice none 0 0) g3 g4 g5 gr0 r0 [] w4) := ⟨⟨blk_below Y3.out hbl, blk_below Z3.out hbl, hbx, blk_below X3.out hbl, fun e he => by simp at he, below_step L3.out hbl, M2.out, M3.out, by rw [hg5]; exact L3.out.size, N3.out, by rw [hg5]; exact Nat.ne_of_lt (blk_lt X3.out)⟩⟩; clear X3 Y3 Z3 L3 M1 M2 M3 N3 hbx hbl hg5; )
  | ((with_reducible refine gate_dst (N := 17) rfl ?_); refine load_ev (N := 17) rfl rfl rfl (cs := #[.string r0.1, .bool r0.2]) rfl HS.out.br Try.underlying110 rfl (by kernel_rfl) ?_)
  | ((with_reducible refine gate_dst (N := 18) rfl ?_); refine load_ev (N := 18) rfl rfl rfl (cs := x.cs (.slice none 0 0)) rfl HS.out.b3 Try.underlying45 rfl (by kernel_rfl) ?_))
 refine (h1.out _).mono ?_
 rintro e U1 ⟨rfl, hb⟩
 replace HS := Aside0.mk (HS.out.below hb)
 clear hb
 go_upto_region 2 with (first
  | ((with_reducible refine gate_dst (N := 6) rfl ?_); refine box_event rfl (N := 6) rfl (cs := #[.int .i64 0, .int .i64 0, .int .i64 0, .string ⟨#[]⟩, .int .i64 0, .string ⟨#[]⟩, .int .i64 0, .string ⟨#[]⟩, .int .i64 0, .int .i64 0, .int .i64 0, .bool false, .string ⟨#[]⟩, .string ⟨#[]⟩, .int .i64 0, .int .i64 0, .int .i64 0, .int .i64 0, .int .i64 0, .slice none 0 0]) (t := 45) ?hr ?_; (case hr => first | (go_simp; done) | (go_simp; rfl)); intro g6 hg6 W6 hbx hbl; have F6 := Aside0.mk (show g3 ≠ g6 ∧ g6 ≠ g4 ∧ w.heap.size ≤ g6 ∧ ∀ e ∈ ([] : List (Nat × Obj)), e.1 ≠ g6 from ⟨by rw [hg6]; exact Nat.ne_of_lt (blk_lt HS.out.b3), by rw [hg6]; exact Nat.ne_of_gt (blk_lt HS.out.b4), by rw [hg6]; exact HS.out.size, fun e he => by simp at he⟩); have HS_ := Aside0.mk (HS.out.below hbl); have Z6 := Aside0.mk hbx; clear HS hbl hbx hg6; have HS := HS_; clear HS_)
  | ((with_reducible refine gate_dst (N := 7) rfl ?_); refine box_event rfl (N := 7) rfl (cs := #[.string ⟨#[]⟩, .bool false]) (t := 110) ?hr ?_; (case hr => first | (go_simp; done) | (go_simp; rfl)); intro ga hga W7 hbx hbl; have HS_ := Aside0.mk (HS.out.below hbl); have Zr := Aside0.mk hbx; have Fr_ := Aside0.mk (HS.out.fresh hga); have Fr := Aside0.mk (fresh_cons (ob := .cells (x.cs (.slice none 0 0)) 45 (0, 0)) Fr_.out (show g3 ≠ ga by rw [hga]; exact Nat.ne_of_lt (blk_lt HS.out.b3))); have Y6 := Aside0.mk (blk_below Z6.out hbl); clear HS Z6 Fr_ hbl hbx hga; have HS := HS_; clear HS_)
  | ((with_reducible refine gate_store (t := 45) (p := 6) rfl ?_); refine store_ev rfl rfl rfl (cells := ym.cs (.slice none 0 0)) rfl rfl Y6.out (by kernel_rfl) rfl (by kernel_rfl) ?_; intro V6 hbx hgr; have HS_ := Aside0.mk (HS.out.move (y' := ym) (yu' := .slice none 0 0) Y6.out hbx hgr F6.out); have Zr_ := Aside0.mk (grown_at hgr Zr.out (blk_types Zr.out Y6.out (by decide))); clear HS Zr Y6 F6 hbx hgr; have HS := HS_; have Zr := Zr_; clear HS_ Zr_)
  | ((with_reducible refine gate_store (t := 110) (p := 7) rfl ?_); refine store_ev rfl rfl rfl (cells := #[.string r1.1, .bool r1.2]) rfl rfl Zr.out (by kernel_rfl) rfl (by kernel_rfl) ?_; intro V7 hbx hgr; have HS_ := Aside0.mk (HS.out.reader (r' := r1) Zr.out hbx hgr Fr.out); clear HS Zr Fr hbx hgr; have HS := HS_; clear HS_))
 have x0 := (HS.out.ex (g3, .cells (x.cs (.slice none 0 0)) 45 (0, 0)) (by simp)).1
 have ck := ((blk_cell x0 1).trans (show _ = some (Value.int .i64 x.kind) from rfl)).trans (by rw [hk.out] : _ = some (Value.int .i64 5))
 clear x0
 go_wp2_with (first
  | ((with_reducible refine gate_dst (N := 31) rfl ?_); refine load_ev (N := 31) rfl rfl rfl (cs := #[.string r1.1, .bool r1.2]) rfl HS.out.br Try.underlying110 rfl (by kernel_rfl) ?_))
 clear ck
 refine (h2.out _).mono ?_
 rintro e U2 ⟨rfl, hb⟩
 replace HS := Aside0.mk (HS.out.below hb)
 clear hb
 go_upto_region 7 with (first
  | ((with_reducible refine gate_dst (N := 9) rfl ?_); refine box_event rfl (N := 9) rfl (cs := #[.string ⟨#[]⟩, .bool false]) (t := 110) ?hr ?_; (case hr => first | (go_simp; done) | (go_simp; rfl)); intro gb hgb W9 hbx hbl; have HS_ := Aside0.mk (HS.out.below hbl); have Zr := Aside0.mk hbx; have Fr := Aside0.mk (HS.out.fresh hgb); clear HS hbl hbx hgb; have HS := HS_; clear HS_)
  | ((with_reducible refine gate_store (t := 110) (p := 9) rfl ?_); refine store_ev rfl rfl rfl (cells := #[.string r2.1, .bool r2.2]) rfl rfl Zr.out (by kernel_rfl) rfl (by kernel_rfl) ?_; intro V9 hbx hgr; have HS_ := Aside0.mk (HS.out.reader (r' := r2) Zr.out hbx hgr Fr.out); clear HS Zr Fr hbx hgr; have HS := HS_; clear HS_)
  | ((with_reducible refine gate_store (t := 9) (p := 37) rfl ?_); have d0 := (blk_cell HS.out.b3 3).trans (show _ = some _ from rfl); have f0 := blk_frozen HS.out.b3 3; refine fstore_ev rfl rfl rfl (j := 3) (u := .string v2) HS.out.b3 ?hr ?_; (case hr => first | (go_simp; done) | (go_simp; rfl)); intro V37 hbx hgr; have HS_ := Aside0.mk (HS.out.field (y' := {ym with pt := v2}) (yu' := .slice none 0 0) hbx hgr); clear HS hbx hgr d0 f0; have HS := HS_; clear HS_))
 refine ret_pair _ _ _ _ (by kernel_rfl) rfl rfl rfl rfl rfl (by kernel_rfl) (fun _ _ _ _ _ h => h) (d0 := 38) (d1 := 39) (p0 := 6) (p1 := 9) (p2 := 4) (p3 := 5) (T1 := 45) (T2 := 110) rfl rfl rfl rfl rfl rfl rfl rfl rfl rfl rfl rfl HS.out.b3 HS.out.br HS.out.b4 HS.out.b5 Try.underlying45 rfl (by kernel_rfl) Try.underlying110 rfl (by kernel_rfl) rfl rfl (by kernel_rfl) (by kernel_rfl) rfl rfl rfl rfl rfl rfl HS.out.n34 (blk_types HS.out.b3 HS.out.b5 (by decide)) (blk_types HS.out.br HS.out.b4 (by decide)) HS.out.n5r (blk_types HS.out.b4 HS.out.b5 (by decide)) ?_
 intro V b4 b5 hgr
 have HL := Aside0.mk (hgr.below HS.out.bl HS.out.l4 HS.out.l5 HS.out.size)
 have B4 := Aside0.mk b4
 have B5 := Aside0.mk b5
 clear b4 b5 hgr HS
 go_wp2_with fail
 refine bodyPost_ret (results_cc' rfl _ _ g4 g5 45 110 (({ym with pt := v2}).cs (.slice none 0 0)) #[.string r2.1, .bool r2.2] (0, 0) (0, 0) _ _ rfl B4.out Try.underlying45 rfl (by kernel_rfl) rfl B5.out Try.underlying110 rfl (by kernel_rfl)) rfl ?_
 rw [HF.out]
 exact ⟨_, rfl, Kd.R_nil _ _ _ _ _, HL.out⟩
set_option maxHeartbeats 16000000 in
set_option maxRecDepth 100000 in
theorem mid7_calls (x : Rq) (r0 : Rd) (w : World) (hz : r0.1.size ≤ 100000) (hk0 : x.kind = 7) :
  Calls Try.prog 83 #[.agg #[.string r0.1, .bool r0.2], .agg #[.int .i64 x.id, .int .i64 x.kind, .int .i64 x.label, .string x.pt, .int .i64 x.pp, .string x.tt, .int .i64 x.tp, .string x.sn, .int .i64 x.sp, .int .i64 x.sa, .int .i64 x.ss, .bool x.sc, .string x.grp, .string x.mem, .int .i64 x.gen, .int .i64 x.off, .int .i64 x.most, .int .i64 x.prod, .int .i64 x.seq, .slice none 0 0]] w fun e w' => ∃ u, e = .returned (.tuple #[(refF x r0).y.v u, .agg #[.string (refF x r0).r.1, .bool (refF x r0).r.2]]) ∧ Kd.R k102 102 w' w.heap.size (fun _ => True) u (refF x r0).ps ∧ Below w.heap.size w w' := by
 have z0 : r0.1.size ≤ 100000 := hz
 have h1 := fun W : World => member_calls x r0 W z0
 have z1 := Nat.le_trans (memberF_size x r0) z0
 obtain ⟨ym, r1, e1⟩ : ∃ v r, memberF x r0 = (v, r) := ⟨_, _, rfl⟩
 rw [e1] at h1 z1
 have h1 := Aside0.mk h1
 have h2 := fun W : World => qnum_calls r1 (by exact z1) W
 obtain ⟨v2, r2, e2⟩ : ∃ v r, qNum r1 = (v, r) := ⟨_, _, rfl⟩
 rw [e2] at h2
 have h2 := Aside0.mk h2
 have HF : Aside0 (refF x r0 = ⟨{ym with gen := v2}, [], r2⟩) := ⟨by unfold refF; rw [if_neg (show ¬ x.kind = 3 by omega), if_neg (show ¬ x.kind = 4 by omega), if_neg (show ¬ x.kind = 2 by omega), if_neg (show ¬ x.kind = 1 by omega), if_neg (show ¬ x.kind = 6 by omega), if_neg (show ¬ x.kind = 5 by omega), if_pos hk0]; simp only [e1, e2]⟩
 have hk := Aside0.mk hk0
 clear e1 e2 z0 z1 hz hk0
 go_enter Try.func83, Try.ntmps83
 go_wp2_with (first
  | ((with_reducible refine gate_dst (N := 2) rfl ?_); refine box_event rfl (N := 2) rfl (cs := #[.string r0.1, .bool r0.2]) (t := 110) ?hr ?_; (case hr => first | (go_simp; done) | (go_simp; rfl)); intro gr0 hgr0 w1 hbx hbl; have X1 := Aside0.mk hbx; have L1 := Aside0.mk hbl; have M1 := Aside0.mk (Nat.le_of_eq hgr0.symm); clear hbx hbl hgr0)
  | ((with_reducible refine gate_dst (N := 3) rfl ?_); refine box_event rfl (N := 3) rfl (cs := #[.int .i64 x.id, .int .i64 x.kind, .int .i64 x.label, .string x.pt, .int .i64 x.pp, .string x.tt, .int .i64 x.tp, .string x.sn, .int .i64 x.sp, .int .i64 x.sa, .int .i64 x.ss, .bool x.sc, .string x.grp, .string x.mem, .int .i64 x.gen, .int .i64 x.off, .int .i64 x.most, .int .i64 x.prod, .int .i64 x.seq, .slice none 0 0]) (t := 45) ?hr ?_; (case hr => first | (go_simp; done) | (go_simp; rfl)); intro g3 hg3 w2 hbx hbl; have X2 := Aside0.mk (blk_below X1.out hbl); have Y2 := Aside0.mk hbx; have L2 := Aside0.mk (below_step L1.out hbl); have M2 := Aside0.mk (show w.heap.size ≤ g3 by rw [hg3]; exact L1.out.size); clear X1 L1 hbx hbl hg3)
  | ((with_reducible refine gate_dst (N := 4) rfl ?_); refine box_event rfl (N := 4) rfl (cs := #[.int .i64 0, .int .i64 0, .int .i64 0, .string ⟨#[]⟩, .int .i64 0, .string ⟨#[]⟩, .int .i64 0, .string ⟨#[]⟩, .int .i64 0, .int .i64 0, .int .i64 0, .bool false, .string ⟨#[]⟩, .string ⟨#[]⟩, .int .i64 0, .int .i64 0, .int .i64 0, .int .i64 0, .int .i64 0, .slice none 0 0]) (t := 45) ?hr ?_; (case hr => first | (go_simp; done) | (go_simp; rfl)); intro g4 hg4 w3 hbx hbl; have X3 := Aside0.mk (blk_below X2.out hbl); have Y3 := Aside0.mk (blk_below Y2.out hbl); have Z3 := Aside0.mk hbx; have L3 := Aside0.mk (below_step L2.out hbl); have M3 := Aside0.mk (show w.heap.size ≤ g4 by rw [hg4]; exact L2.out.size); have N3 := Aside0.mk (show g3 ≠ g4 by rw [hg4]; exact Nat.ne_of_lt (blk_lt Y2.out)); clear X2 Y2 L2 hbx hbl hg4)
  | ((with_reducible refine gate_dst (N := 5) rfl ?_); refine box_event rfl (N := 5) rfl (cs := #[.string ⟨#[]⟩, .bool false]) (t := 110) ?hr ?_; (case hr => first | (go_simp; done) | (go_simp; rfl)); intro g5 hg5 w4 hbx hbl; have HS : Aside0 (Sx w x (.slice none 0 0) g3 g4 g5 gr0 r0 [] w4) := ⟨⟨blk_below Y3.out hbl, blk_below Z3.out hbl, hbx, blk_below X3.out hbl, fun e he => by simp at he, below_step L3.out hbl, M2.out, M3.out, by rw [hg5]; exact L3.out.size, N3.out, by rw [hg5]; exact Nat.ne_of_lt (blk_lt X3.out)⟩⟩; clear X3 Y3 Z3 L3 M1 M2 M3 N3 hbx hbl hg5; )
  | ((with_reducible refine gate_dst (N := 17) rfl ?_); refine load_ev (N := 17) rfl rfl rfl (cs := #[.string r0.1, .bool r0.2]) rfl HS.out.br Try.underlying110 rfl (by kernel_rfl) ?_)
  | ((with_reducible refine gate_dst (N := 18) rfl ?_); refine load_ev (N := 18) rfl rfl rfl (cs := x.cs (.slice none 0 0)) rfl HS.out.b3 Try.underlying45 rfl (by kernel_rfl) ?_))
 refine (h1.out _).mono ?_
 rintro e U1 ⟨rfl, hb⟩
 replace HS := Aside0.mk (HS.out.below hb)
 clear hb
 go_upto_region 2 with (first
  | ((with_reducible refine gate_dst (N := 6) rfl ?_); refine box_event rfl (N := 6) rfl (cs := #[.int .i64 0, .int .i64 0, .int .i64 0, .string ⟨#[]⟩, .int .i64 0, .string ⟨#[]⟩, .int .i64 0, .string ⟨#[]⟩, .int .i64 0, .int .i64 0, .int .i64 0, .bool false, .string ⟨#[]⟩, .string ⟨#[]⟩, .int .i64 0, .int .i64 0, .int .i64 0, .int .i64 0, .int .i64 0, .slice none 0 0]) (t := 45) ?hr ?_; (case hr => first | (go_simp; done) | (go_simp; rfl)); intro g6 hg6 W6 hbx hbl; have F6 := Aside0.mk (show g3 ≠ g6 ∧ g6 ≠ g4 ∧ w.heap.size ≤ g6 ∧ ∀ e ∈ ([] : List (Nat × Obj)), e.1 ≠ g6 from ⟨by rw [hg6]; exact Nat.ne_of_lt (blk_lt HS.out.b3), by rw [hg6]; exact Nat.ne_of_gt (blk_lt HS.out.b4), by rw [hg6]; exact HS.out.size, fun e he => by simp at he⟩); have HS_ := Aside0.mk (HS.out.below hbl); have Z6 := Aside0.mk hbx; clear HS hbl hbx hg6; have HS := HS_; clear HS_)
  | ((with_reducible refine gate_dst (N := 7) rfl ?_); refine box_event rfl (N := 7) rfl (cs := #[.string ⟨#[]⟩, .bool false]) (t := 110) ?hr ?_; (case hr => first | (go_simp; done) | (go_simp; rfl)); intro ga hga W7 hbx hbl; have HS_ := Aside0.mk (HS.out.below hbl); have Zr := Aside0.mk hbx; have Fr_ := Aside0.mk (HS.out.fresh hga); have Fr := Aside0.mk (fresh_cons (ob := .cells (x.cs (.slice none 0 0)) 45 (0, 0)) Fr_.out (show g3 ≠ ga by rw [hga]; exact Nat.ne_of_lt (blk_lt HS.out.b3))); have Y6 := Aside0.mk (blk_below Z6.out hbl); clear HS Z6 Fr_ hbl hbx hga; have HS := HS_; clear HS_)
  | ((with_reducible refine gate_store (t := 45) (p := 6) rfl ?_); refine store_ev rfl rfl rfl (cells := ym.cs (.slice none 0 0)) rfl rfl Y6.out (by kernel_rfl) rfl (by kernel_rfl) ?_; intro V6 hbx hgr; have HS_ := Aside0.mk (HS.out.move (y' := ym) (yu' := .slice none 0 0) Y6.out hbx hgr F6.out); have Zr_ := Aside0.mk (grown_at hgr Zr.out (blk_types Zr.out Y6.out (by decide))); clear HS Zr Y6 F6 hbx hgr; have HS := HS_; have Zr := Zr_; clear HS_ Zr_)
  | ((with_reducible refine gate_store (t := 110) (p := 7) rfl ?_); refine store_ev rfl rfl rfl (cells := #[.string r1.1, .bool r1.2]) rfl rfl Zr.out (by kernel_rfl) rfl (by kernel_rfl) ?_; intro V7 hbx hgr; have HS_ := Aside0.mk (HS.out.reader (r' := r1) Zr.out hbx hgr Fr.out); clear HS Zr Fr hbx hgr; have HS := HS_; clear HS_))
 have x0 := (HS.out.ex (g3, .cells (x.cs (.slice none 0 0)) 45 (0, 0)) (by simp)).1
 have ck := ((blk_cell x0 1).trans (show _ = some (Value.int .i64 x.kind) from rfl)).trans (by rw [hk.out] : _ = some (Value.int .i64 7))
 clear x0
 go_wp2_with (first
  | ((with_reducible refine gate_dst (N := 41) rfl ?_); refine load_ev (N := 41) rfl rfl rfl (cs := #[.string r1.1, .bool r1.2]) rfl HS.out.br Try.underlying110 rfl (by kernel_rfl) ?_))
 clear ck
 refine (h2.out _).mono ?_
 rintro e U2 ⟨rfl, hb⟩
 replace HS := Aside0.mk (HS.out.below hb)
 clear hb
 go_upto_region 10 with (first
  | ((with_reducible refine gate_dst (N := 11) rfl ?_); refine box_event rfl (N := 11) rfl (cs := #[.string ⟨#[]⟩, .bool false]) (t := 110) ?hr ?_; (case hr => first | (go_simp; done) | (go_simp; rfl)); intro gb hgb W11 hbx hbl; have HS_ := Aside0.mk (HS.out.below hbl); have Zr := Aside0.mk hbx; have Fr := Aside0.mk (HS.out.fresh hgb); clear HS hbl hbx hgb; have HS := HS_; clear HS_)
  | ((with_reducible refine gate_store (t := 110) (p := 11) rfl ?_); refine store_ev rfl rfl rfl (cells := #[.string r2.1, .bool r2.2]) rfl rfl Zr.out (by kernel_rfl) rfl (by kernel_rfl) ?_; intro V11 hbx hgr; have HS_ := Aside0.mk (HS.out.reader (r' := r2) Zr.out hbx hgr Fr.out); clear HS Zr Fr hbx hgr; have HS := HS_; clear HS_)
  | ((with_reducible refine gate_store (t := 3) (p := 46) rfl ?_); have d0 := (blk_cell HS.out.b3 14).trans (show _ = some _ from rfl); have f0 := blk_frozen HS.out.b3 14; refine fstore_ev rfl rfl rfl (j := 14) (u := .int .i64 v2) HS.out.b3 ?hr ?_; (case hr => first | (go_simp; done) | (go_simp; rfl)); intro V46 hbx hgr; have HS_ := Aside0.mk (HS.out.field (y' := {ym with gen := v2}) (yu' := .slice none 0 0) hbx hgr); clear HS hbx hgr d0 f0; have HS := HS_; clear HS_))
 have x0 := (HS.out.ex (g3, .cells (x.cs (.slice none 0 0)) 45 (0, 0)) (by simp)).1
 have ck := ((blk_cell x0 1).trans (show _ = some (Value.int .i64 x.kind) from rfl)).trans (by rw [hk.out] : _ = some (Value.int .i64 7))
 clear x0
 go_upto_region 11 with fail
 clear ck
 refine ret_pair _ _ _ _ (by kernel_rfl) rfl rfl rfl rfl rfl (by kernel_rfl) (fun _ _ _ _ _ h => h) (d0 := 50) (d1 := 51) (p0 := 6) (p1 := 11) (p2 := 4) (p3 := 5) (T1 := 45) (T2 := 110) rfl rfl rfl rfl rfl rfl rfl rfl rfl rfl rfl rfl HS.out.b3 HS.out.br HS.out.b4 HS.out.b5 Try.underlying45 rfl (by kernel_rfl) Try.underlying110 rfl (by kernel_rfl) rfl rfl (by kernel_rfl) (by kernel_rfl) rfl rfl rfl rfl rfl rfl HS.out.n34 (blk_types HS.out.b3 HS.out.b5 (by decide)) (blk_types HS.out.br HS.out.b4 (by decide)) HS.out.n5r (blk_types HS.out.b4 HS.out.b5 (by decide)) ?_
 intro V b4 b5 hgr
 have HL := Aside0.mk (hgr.below HS.out.bl HS.out.l4 HS.out.l5 HS.out.size)
 have B4 := Aside0.mk b4
 have B5 := Aside0.mk b5
 clear b4 b5 hgr HS
 go_wp2_with fail
 refine bodyPost_ret (results_cc' rfl _ _ g4 g5 45 110 (({ym with gen := v2}).cs (.slice none 0 0)) #[.string r2.1, .bool r2.2] (0, 0) (0, 0) _ _ rfl B4.out Try.underlying45 rfl (by kernel_rfl) rfl B5.out Try.underlying110 rfl (by kernel_rfl)) rfl ?_
 rw [HF.out]
 exact ⟨_, rfl, Kd.R_nil _ _ _ _ _, HL.out⟩
set_option maxHeartbeats 16000000 in
set_option maxRecDepth 100000 in
theorem mid8_calls (x : Rq) (r0 : Rd) (w : World) (hz : r0.1.size ≤ 100000) (hk0 : x.kind = 8) :
  Calls Try.prog 83 #[.agg #[.string r0.1, .bool r0.2], .agg #[.int .i64 x.id, .int .i64 x.kind, .int .i64 x.label, .string x.pt, .int .i64 x.pp, .string x.tt, .int .i64 x.tp, .string x.sn, .int .i64 x.sp, .int .i64 x.sa, .int .i64 x.ss, .bool x.sc, .string x.grp, .string x.mem, .int .i64 x.gen, .int .i64 x.off, .int .i64 x.most, .int .i64 x.prod, .int .i64 x.seq, .slice none 0 0]] w fun e w' => ∃ u, e = .returned (.tuple #[(refF x r0).y.v u, .agg #[.string (refF x r0).r.1, .bool (refF x r0).r.2]]) ∧ Kd.R k102 102 w' w.heap.size (fun _ => True) u (refF x r0).ps ∧ Below w.heap.size w w' := by
 have z0 : r0.1.size ≤ 100000 := hz
 have h1 := fun W : World => member_calls x r0 W z0
 have z1 := Nat.le_trans (memberF_size x r0) z0
 obtain ⟨ym, r1, e1⟩ : ∃ v r, memberF x r0 = (v, r) := ⟨_, _, rfl⟩
 rw [e1] at h1 z1
 have h1 := Aside0.mk h1
 have h2 := fun W : World => qnum_calls r1 (by exact z1) W
 obtain ⟨v2, r2, e2⟩ : ∃ v r, qNum r1 = (v, r) := ⟨_, _, rfl⟩
 rw [e2] at h2
 have h2 := Aside0.mk h2
 have z2 : r2.1.size ≤ 100000 := by have := qNum_size r1; rw [e2] at this; exact Nat.le_trans this z1
 have h3 := fun W : World => qplace_calls r2 (by exact z2) W
 obtain ⟨v3, r3, e3⟩ : ∃ v r, qPlace r2 = (v, r) := ⟨_, _, rfl⟩
 rw [e3] at h3
 have h3 := Aside0.mk h3
 have z3 : r3.1.size ≤ 100000 := by have := qPlace_size r2; rw [e3] at this; exact Nat.le_trans this z2
 have h4 := fun W : World => qnum_calls r3 (by exact z3) W
 obtain ⟨v4, r4, e4⟩ : ∃ v r, qNum r3 = (v, r) := ⟨_, _, rfl⟩
 rw [e4] at h4
 have h4 := Aside0.mk h4
 have HF : Aside0 (refF x r0 = ⟨{ym with gen := v2, pt := v3.1, pp := v3.2, off := v4}, [], r4⟩) := ⟨by unfold refF; rw [if_neg (show ¬ x.kind = 3 by omega), if_neg (show ¬ x.kind = 4 by omega), if_neg (show ¬ x.kind = 2 by omega), if_neg (show ¬ x.kind = 1 by omega), if_neg (show ¬ x.kind = 6 by omega), if_neg (show ¬ x.kind = 5 by omega), if_neg (show ¬ x.kind = 7 by omega), if_pos hk0]; simp only [e1, e2, e3, e4]⟩
 have hk := Aside0.mk hk0
 clear e1 e2 e3 e4 z0 z1 z2 z3 hz hk0
 go_enter Try.func83, Try.ntmps83
 go_wp2_with (first
  | ((with_reducible refine gate_dst (N := 2) rfl ?_); refine box_event rfl (N := 2) rfl (cs := #[.string r0.1, .bool r0.2]) (t := 110) ?hr ?_; (case hr => first | (go_simp; done) | (go_simp; rfl)); intro gr0 hgr0 w1 hbx hbl; have X1 := Aside0.mk hbx; have L1 := Aside0.mk hbl; have M1 := Aside0.mk (Nat.le_of_eq hgr0.symm); clear hbx hbl hgr0)
  | ((with_reducible refine gate_dst (N := 3) rfl ?_); refine box_event rfl (N := 3) rfl (cs := #[.int .i64 x.id, .int .i64 x.kind, .int .i64 x.label, .string x.pt, .int .i64 x.pp, .string x.tt, .int .i64 x.tp, .string x.sn, .int .i64 x.sp, .int .i64 x.sa, .int .i64 x.ss, .bool x.sc, .string x.grp, .string x.mem, .int .i64 x.gen, .int .i64 x.off, .int .i64 x.most, .int .i64 x.prod, .int .i64 x.seq, .slice none 0 0]) (t := 45) ?hr ?_; (case hr => first | (go_simp; done) | (go_simp; rfl)); intro g3 hg3 w2 hbx hbl; have X2 := Aside0.mk (blk_below X1.out hbl); have Y2 := Aside0.mk hbx; have L2 := Aside0.mk (below_step L1.out hbl); have M2 := Aside0.mk (show w.heap.size ≤ g3 by rw [hg3]; exact L1.out.size); clear X1 L1 hbx hbl hg3)
  | ((with_reducible refine gate_dst (N := 4) rfl ?_); refine box_event rfl (N := 4) rfl (cs := #[.int .i64 0, .int .i64 0, .int .i64 0, .string ⟨#[]⟩, .int .i64 0, .string ⟨#[]⟩, .int .i64 0, .string ⟨#[]⟩, .int .i64 0, .int .i64 0, .int .i64 0, .bool false, .string ⟨#[]⟩, .string ⟨#[]⟩, .int .i64 0, .int .i64 0, .int .i64 0, .int .i64 0, .int .i64 0, .slice none 0 0]) (t := 45) ?hr ?_; (case hr => first | (go_simp; done) | (go_simp; rfl)); intro g4 hg4 w3 hbx hbl; have X3 := Aside0.mk (blk_below X2.out hbl); have Y3 := Aside0.mk (blk_below Y2.out hbl); have Z3 := Aside0.mk hbx; have L3 := Aside0.mk (below_step L2.out hbl); have M3 := Aside0.mk (show w.heap.size ≤ g4 by rw [hg4]; exact L2.out.size); have N3 := Aside0.mk (show g3 ≠ g4 by rw [hg4]; exact Nat.ne_of_lt (blk_lt Y2.out)); clear X2 Y2 L2 hbx hbl hg4)
  | ((with_reducible refine gate_dst (N := 5) rfl ?_); refine box_event rfl (N := 5) rfl (cs := #[.string ⟨#[]⟩, .bool false]) (t := 110) ?hr ?_; (case hr => first | (go_simp; done) | (go_simp; rfl)); intro g5 hg5 w4 hbx hbl; have HS : Aside0 (Sx w x (.slice none 0 0) g3 g4 g5 gr0 r0 [] w4) := ⟨⟨blk_below Y3.out hbl, blk_below Z3.out hbl, hbx, blk_below X3.out hbl, fun e he => by simp at he, below_step L3.out hbl, M2.out, M3.out, by rw [hg5]; exact L3.out.size, N3.out, by rw [hg5]; exact Nat.ne_of_lt (blk_lt X3.out)⟩⟩; clear X3 Y3 Z3 L3 M1 M2 M3 N3 hbx hbl hg5; )
  | ((with_reducible refine gate_dst (N := 17) rfl ?_); refine load_ev (N := 17) rfl rfl rfl (cs := #[.string r0.1, .bool r0.2]) rfl HS.out.br Try.underlying110 rfl (by kernel_rfl) ?_)
  | ((with_reducible refine gate_dst (N := 18) rfl ?_); refine load_ev (N := 18) rfl rfl rfl (cs := x.cs (.slice none 0 0)) rfl HS.out.b3 Try.underlying45 rfl (by kernel_rfl) ?_))
 refine (h1.out _).mono ?_
 rintro e U1 ⟨rfl, hb⟩
 replace HS := Aside0.mk (HS.out.below hb)
 clear hb
 go_upto_region 2 with (first
  | ((with_reducible refine gate_dst (N := 6) rfl ?_); refine box_event rfl (N := 6) rfl (cs := #[.int .i64 0, .int .i64 0, .int .i64 0, .string ⟨#[]⟩, .int .i64 0, .string ⟨#[]⟩, .int .i64 0, .string ⟨#[]⟩, .int .i64 0, .int .i64 0, .int .i64 0, .bool false, .string ⟨#[]⟩, .string ⟨#[]⟩, .int .i64 0, .int .i64 0, .int .i64 0, .int .i64 0, .int .i64 0, .slice none 0 0]) (t := 45) ?hr ?_; (case hr => first | (go_simp; done) | (go_simp; rfl)); intro g6 hg6 W6 hbx hbl; have F6 := Aside0.mk (show g3 ≠ g6 ∧ g6 ≠ g4 ∧ w.heap.size ≤ g6 ∧ ∀ e ∈ ([] : List (Nat × Obj)), e.1 ≠ g6 from ⟨by rw [hg6]; exact Nat.ne_of_lt (blk_lt HS.out.b3), by rw [hg6]; exact Nat.ne_of_gt (blk_lt HS.out.b4), by rw [hg6]; exact HS.out.size, fun e he => by simp at he⟩); have HS_ := Aside0.mk (HS.out.below hbl); have Z6 := Aside0.mk hbx; clear HS hbl hbx hg6; have HS := HS_; clear HS_)
  | ((with_reducible refine gate_dst (N := 7) rfl ?_); refine box_event rfl (N := 7) rfl (cs := #[.string ⟨#[]⟩, .bool false]) (t := 110) ?hr ?_; (case hr => first | (go_simp; done) | (go_simp; rfl)); intro ga hga W7 hbx hbl; have HS_ := Aside0.mk (HS.out.below hbl); have Zr := Aside0.mk hbx; have Fr_ := Aside0.mk (HS.out.fresh hga); have Fr := Aside0.mk (fresh_cons (ob := .cells (x.cs (.slice none 0 0)) 45 (0, 0)) Fr_.out (show g3 ≠ ga by rw [hga]; exact Nat.ne_of_lt (blk_lt HS.out.b3))); have Y6 := Aside0.mk (blk_below Z6.out hbl); clear HS Z6 Fr_ hbl hbx hga; have HS := HS_; clear HS_)
  | ((with_reducible refine gate_store (t := 45) (p := 6) rfl ?_); refine store_ev rfl rfl rfl (cells := ym.cs (.slice none 0 0)) rfl rfl Y6.out (by kernel_rfl) rfl (by kernel_rfl) ?_; intro V6 hbx hgr; have HS_ := Aside0.mk (HS.out.move (y' := ym) (yu' := .slice none 0 0) Y6.out hbx hgr F6.out); have Zr_ := Aside0.mk (grown_at hgr Zr.out (blk_types Zr.out Y6.out (by decide))); clear HS Zr Y6 F6 hbx hgr; have HS := HS_; have Zr := Zr_; clear HS_ Zr_)
  | ((with_reducible refine gate_store (t := 110) (p := 7) rfl ?_); refine store_ev rfl rfl rfl (cells := #[.string r1.1, .bool r1.2]) rfl rfl Zr.out (by kernel_rfl) rfl (by kernel_rfl) ?_; intro V7 hbx hgr; have HS_ := Aside0.mk (HS.out.reader (r' := r1) Zr.out hbx hgr Fr.out); clear HS Zr Fr hbx hgr; have HS := HS_; clear HS_))
 have x0 := (HS.out.ex (g3, .cells (x.cs (.slice none 0 0)) 45 (0, 0)) (by simp)).1
 have ck := ((blk_cell x0 1).trans (show _ = some (Value.int .i64 x.kind) from rfl)).trans (by rw [hk.out] : _ = some (Value.int .i64 8))
 clear x0
 go_wp2_with (first
  | ((with_reducible refine gate_dst (N := 41) rfl ?_); refine load_ev (N := 41) rfl rfl rfl (cs := #[.string r1.1, .bool r1.2]) rfl HS.out.br Try.underlying110 rfl (by kernel_rfl) ?_))
 clear ck
 refine (h2.out _).mono ?_
 rintro e U2 ⟨rfl, hb⟩
 replace HS := Aside0.mk (HS.out.below hb)
 clear hb
 go_upto_region 10 with (first
  | ((with_reducible refine gate_dst (N := 11) rfl ?_); refine box_event rfl (N := 11) rfl (cs := #[.string ⟨#[]⟩, .bool false]) (t := 110) ?hr ?_; (case hr => first | (go_simp; done) | (go_simp; rfl)); intro gb hgb W11 hbx hbl; have HS_ := Aside0.mk (HS.out.below hbl); have Zr := Aside0.mk hbx; have Fr := Aside0.mk (HS.out.fresh hgb); clear HS hbl hbx hgb; have HS := HS_; clear HS_)
  | ((with_reducible refine gate_store (t := 110) (p := 11) rfl ?_); refine store_ev rfl rfl rfl (cells := #[.string r2.1, .bool r2.2]) rfl rfl Zr.out (by kernel_rfl) rfl (by kernel_rfl) ?_; intro V11 hbx hgr; have HS_ := Aside0.mk (HS.out.reader (r' := r2) Zr.out hbx hgr Fr.out); clear HS Zr Fr hbx hgr; have HS := HS_; clear HS_)
  | ((with_reducible refine gate_store (t := 3) (p := 46) rfl ?_); have d0 := (blk_cell HS.out.b3 14).trans (show _ = some _ from rfl); have f0 := blk_frozen HS.out.b3 14; refine fstore_ev rfl rfl rfl (j := 14) (u := .int .i64 v2) HS.out.b3 ?hr ?_; (case hr => first | (go_simp; done) | (go_simp; rfl)); intro V46 hbx hgr; have HS_ := Aside0.mk (HS.out.field (y' := {ym with gen := v2}) (yu' := .slice none 0 0) hbx hgr); clear HS hbx hgr d0 f0; have HS := HS_; clear HS_))
 have x0 := (HS.out.ex (g3, .cells (x.cs (.slice none 0 0)) 45 (0, 0)) (by simp)).1
 have ck := ((blk_cell x0 1).trans (show _ = some (Value.int .i64 x.kind) from rfl)).trans (by rw [hk.out] : _ = some (Value.int .i64 8))
 clear x0
 go_wp2_with (first
  | ((with_reducible refine gate_dst (N := 53) rfl ?_); refine load_ev (N := 53) rfl rfl rfl (cs := #[.string r2.1, .bool r2.2]) rfl HS.out.br Try.underlying110 rfl (by kernel_rfl) ?_))
 clear ck
 refine (h3.out _).mono ?_
 rintro e U3 ⟨rfl, hb⟩
 replace HS := Aside0.mk (HS.out.below hb)
 clear hb
 go_wp2_with (first
  | ((with_reducible refine gate_dst (N := 12) rfl ?_); refine box_event rfl (N := 12) rfl (cs := #[.string ⟨#[]⟩, .int .i64 0]) (t := 40) ?hr ?_; (case hr => first | (go_simp; done) | (go_simp; rfl)); intro gp hgp W12 hbx hbl; have HS_ := Aside0.mk (HS.out.below hbl); have Zp := Aside0.mk hbx; have Fp := Aside0.mk (HS.out.fresh hgp); clear HS hbl hbx hgp; have HS := HS_; clear HS_)
  | ((with_reducible refine gate_dst (N := 13) rfl ?_); refine box_event rfl (N := 13) rfl (cs := #[.string ⟨#[]⟩, .bool false]) (t := 110) ?hr ?_; (case hr => first | (go_simp; done) | (go_simp; rfl)); intro gc hgc W13 hbx hbl; have HS_ := Aside0.mk (HS.out.below hbl); have Zr := Aside0.mk hbx; have Fr := Aside0.mk (HS.out.fresh hgc); have Zq := Aside0.mk (blk_below Zp.out hbl); have Fq := Aside0.mk (show gp ≠ gc from by rw [hgc]; exact Nat.ne_of_lt (blk_lt Zp.out)); clear HS Zp hbl hbx hgc; have HS := HS_; clear HS_)
  | ((with_reducible refine gate_store (t := 40) (p := 12) rfl ?_); refine store_ev rfl rfl rfl (cells := #[.string v3.1, .int .i64 v3.2]) rfl rfl Zq.out (by kernel_rfl) rfl (by kernel_rfl) ?_; intro V12 hbx hgr; have HS_ := Aside0.mk (HS.out.place Zq.out hbx hgr Fp.out.2); have Zr_ := Aside0.mk (grown_at hgr Zr.out (blk_types Zr.out Zq.out (by decide))); have Fr_ := Aside0.mk (fresh_cons (ob := .cells #[.string v3.1, .int .i64 v3.2] 40 (0, 0)) Fr.out Fq.out); clear HS Zr Zq Fp Fq Fr hbx hgr; have HS := HS_; have Zr := Zr_; have Fr := Fr_; clear HS_ Zr_ Fr_)
  | ((with_reducible refine gate_store (t := 110) (p := 13) rfl ?_); refine store_ev rfl rfl rfl (cells := #[.string r3.1, .bool r3.2]) rfl rfl Zr.out (by kernel_rfl) rfl (by kernel_rfl) ?_; intro V13 hbx hgr; have HS_ := Aside0.mk (HS.out.reader (r' := r3) Zr.out hbx hgr Fr.out); clear HS Zr Fr hbx hgr; have HS := HS_; clear HS_)
  | ((with_reducible refine gate_dst (N := 58) rfl ?_); refine load_ev (N := 58) rfl rfl rfl (cs := #[.string r3.1, .bool r3.2]) rfl HS.out.br Try.underlying110 rfl (by kernel_rfl) ?_))
 refine (h4.out _).mono ?_
 rintro e U4 ⟨rfl, hb⟩
 replace HS := Aside0.mk (HS.out.below hb)
 clear hb
 go_upto_region 14 with (first
  | ((with_reducible refine gate_dst (N := 15) rfl ?_); refine box_event rfl (N := 15) rfl (cs := #[.string ⟨#[]⟩, .bool false]) (t := 110) ?hr ?_; (case hr => first | (go_simp; done) | (go_simp; rfl)); intro gd hgd W15 hbx hbl; have HS_ := Aside0.mk (HS.out.below hbl); have Zr := Aside0.mk hbx; have Fr := Aside0.mk (HS.out.fresh hgd); clear HS hbl hbx hgd; have HS := HS_; clear HS_)
  | ((with_reducible refine gate_store (t := 110) (p := 15) rfl ?_); refine store_ev rfl rfl rfl (cells := #[.string r4.1, .bool r4.2]) rfl rfl Zr.out (by kernel_rfl) rfl (by kernel_rfl) ?_; intro V15 hbx hgr; have HS_ := Aside0.mk (HS.out.reader (r' := r4) Zr.out hbx hgr Fr.out); clear HS Zr Fr hbx hgr; have HS := HS_; clear HS_))
 have x0 := (HS.out.ex (gp, .cells #[.string v3.1, .int .i64 v3.2] 40 (0, 0)) (by simp)).1
 have q0 := (blk_cell x0 0).trans (show _ = some (Value.string v3.1) from rfl)
 have q1 := (blk_cell x0 1).trans (show _ = some (Value.int .i64 v3.2) from rfl)
 have d0 := (blk_cell HS.out.b3 3).trans (show _ = some _ from rfl)
 have d1 := (blk_cell HS.out.b3 4).trans (show _ = some _ from rfl)
 have f0 := blk_frozen HS.out.b3 3
 have f1 := blk_frozen HS.out.b3 4
 clear x0
 go_upto_region 15 with fail
 obtain ⟨hb2, hg2⟩ := put2 (j := 3) HS.out.b3 (.string v3.1) (.int .i64 v3.2)
 have HS_ := Aside0.mk (HS.out.field (y' := {ym with gen := v2, pt := v3.1, pp := v3.2}) (yu' := .slice none 0 0) hb2 hg2)
 clear HS q0 q1 d0 d1 f0 f1 hb2 hg2
 have HS := HS_
 clear HS_
 go_upto_region 16 with (first
  | ((with_reducible refine gate_store (t := 3) (p := 65) rfl ?_); have d0 := (blk_cell HS.out.b3 15).trans (show _ = some _ from rfl); have f0 := blk_frozen HS.out.b3 15; refine fstore_ev rfl rfl rfl (j := 15) (u := .int .i64 v4) HS.out.b3 ?hr ?_; (case hr => first | (go_simp; done) | (go_simp; rfl)); intro V65 hbx hgr; have HS_ := Aside0.mk (HS.out.field (y' := {ym with gen := v2, pt := v3.1, pp := v3.2, off := v4}) (yu' := .slice none 0 0) hbx hgr); clear HS hbx hgr d0 f0; have HS := HS_; clear HS_))
 refine ret_pair _ _ _ _ (by kernel_rfl) rfl rfl rfl rfl rfl (by kernel_rfl) (fun _ _ _ _ _ h => h) (d0 := 66) (d1 := 67) (p0 := 6) (p1 := 15) (p2 := 4) (p3 := 5) (T1 := 45) (T2 := 110) rfl rfl rfl rfl rfl rfl rfl rfl rfl rfl rfl rfl HS.out.b3 HS.out.br HS.out.b4 HS.out.b5 Try.underlying45 rfl (by kernel_rfl) Try.underlying110 rfl (by kernel_rfl) rfl rfl (by kernel_rfl) (by kernel_rfl) rfl rfl rfl rfl rfl rfl HS.out.n34 (blk_types HS.out.b3 HS.out.b5 (by decide)) (blk_types HS.out.br HS.out.b4 (by decide)) HS.out.n5r (blk_types HS.out.b4 HS.out.b5 (by decide)) ?_
 intro V b4 b5 hgr
 have HL := Aside0.mk (hgr.below HS.out.bl HS.out.l4 HS.out.l5 HS.out.size)
 have B4 := Aside0.mk b4
 have B5 := Aside0.mk b5
 clear b4 b5 hgr HS
 go_wp2_with fail
 refine bodyPost_ret (results_cc' rfl _ _ g4 g5 45 110 (({ym with gen := v2, pt := v3.1, pp := v3.2, off := v4}).cs (.slice none 0 0)) #[.string r4.1, .bool r4.2] (0, 0) (0, 0) _ _ rfl B4.out Try.underlying45 rfl (by kernel_rfl) rfl B5.out Try.underlying110 rfl (by kernel_rfl)) rfl ?_
 rw [HF.out]
 exact ⟨_, rfl, Kd.R_nil _ _ _ _ _, HL.out⟩
set_option maxHeartbeats 16000000 in
set_option maxRecDepth 100000 in
theorem high10_calls (x : Rq) (r0 : Rd) (w : World) (hz : r0.1.size ≤ 100000) (hk0 : x.kind = 10) :
  Calls Try.prog 84 #[.agg #[.string r0.1, .bool r0.2], .agg #[.int .i64 x.id, .int .i64 x.kind, .int .i64 x.label, .string x.pt, .int .i64 x.pp, .string x.tt, .int .i64 x.tp, .string x.sn, .int .i64 x.sp, .int .i64 x.sa, .int .i64 x.ss, .bool x.sc, .string x.grp, .string x.mem, .int .i64 x.gen, .int .i64 x.off, .int .i64 x.most, .int .i64 x.prod, .int .i64 x.seq, .slice none 0 0]] w fun e w' => ∃ u, e = .returned (.tuple #[(refF x r0).y.v u, .agg #[.string (refF x r0).r.1, .bool (refF x r0).r.2]]) ∧ Kd.R k102 102 w' w.heap.size (fun _ => True) u (refF x r0).ps ∧ Below w.heap.size w w' := by
 have z0 : r0.1.size ≤ 100000 := hz
 have h1 := fun W : World => qplace_calls r0 z0 W
 obtain ⟨v1, r1, e1⟩ : ∃ v r, qPlace r0 = (v, r) := ⟨_, _, rfl⟩
 rw [e1] at h1
 have h1 := Aside0.mk h1
 have z1 : r1.1.size ≤ 100000 := by have := qPlace_size r0; rw [e1] at this; exact Nat.le_trans this z0
 have h2 := fun W : World => qnum_calls r1 z1 W
 obtain ⟨v2, r2, e2⟩ : ∃ v r, qNum r1 = (v, r) := ⟨_, _, rfl⟩
 rw [e2] at h2
 have h2 := Aside0.mk h2
 have z2 : r2.1.size ≤ 100000 := by have := qNum_size r1; rw [e2] at this; exact Nat.le_trans this z1
 have h3 := fun W : World => qnum_calls r2 z2 W
 obtain ⟨v3, r3, e3⟩ : ∃ v r, qNum r2 = (v, r) := ⟨_, _, rfl⟩
 rw [e3] at h3
 have h3 := Aside0.mk h3
 have z3 : r3.1.size ≤ 100000 := by have := qNum_size r2; rw [e3] at this; exact Nat.le_trans this z2
 have h4 := fun W : World => qplace_calls r3 z3 W
 obtain ⟨v4, r4, e4⟩ : ∃ v r, qPlace r3 = (v, r) := ⟨_, _, rfl⟩
 rw [e4] at h4
 have h4 := Aside0.mk h4
 have HF : Aside0 (refF x r0 = ⟨{x with pt := v1.1, pp := v1.2, off := v2, label := v3, tt := v4.1, tp := v4.2}, [], r4⟩) := ⟨by unfold refF; rw [if_neg (show ¬ x.kind = 3 by omega), if_neg (show ¬ x.kind = 4 by omega), if_neg (show ¬ x.kind = 2 by omega), if_neg (show ¬ x.kind = 1 by omega), if_neg (show ¬ x.kind = 6 by omega), if_neg (show ¬ x.kind = 5 by omega), if_neg (show ¬ x.kind = 7 by omega), if_neg (show ¬ x.kind = 8 by omega), if_pos hk0]; simp only [e1, e2, e3, e4]⟩
 have hk := Aside0.mk hk0
 clear e1 e2 e3 e4 z0 z1 z2 z3 hz hk0
 go_enter Try.func84, Try.ntmps84
 go_wp2_with (first
  | ((with_reducible refine gate_dst (N := 2) rfl ?_); refine box_event rfl (N := 2) rfl (cs := #[.string r0.1, .bool r0.2]) (t := 110) ?hr ?_; (case hr => first | (go_simp; done) | (go_simp; rfl)); intro gr0 hgr0 w1 hbx hbl; have X1 := Aside0.mk hbx; have L1 := Aside0.mk hbl; have M1 := Aside0.mk (Nat.le_of_eq hgr0.symm); clear hbx hbl hgr0)
  | ((with_reducible refine gate_dst (N := 3) rfl ?_); refine box_event rfl (N := 3) rfl (cs := #[.int .i64 x.id, .int .i64 x.kind, .int .i64 x.label, .string x.pt, .int .i64 x.pp, .string x.tt, .int .i64 x.tp, .string x.sn, .int .i64 x.sp, .int .i64 x.sa, .int .i64 x.ss, .bool x.sc, .string x.grp, .string x.mem, .int .i64 x.gen, .int .i64 x.off, .int .i64 x.most, .int .i64 x.prod, .int .i64 x.seq, .slice none 0 0]) (t := 45) ?hr ?_; (case hr => first | (go_simp; done) | (go_simp; rfl)); intro g3 hg3 w2 hbx hbl; have X2 := Aside0.mk (blk_below X1.out hbl); have Y2 := Aside0.mk hbx; have L2 := Aside0.mk (below_step L1.out hbl); have M2 := Aside0.mk (show w.heap.size ≤ g3 by rw [hg3]; exact L1.out.size); clear X1 L1 hbx hbl hg3)
  | ((with_reducible refine gate_dst (N := 4) rfl ?_); refine box_event rfl (N := 4) rfl (cs := #[.int .i64 0, .int .i64 0, .int .i64 0, .string ⟨#[]⟩, .int .i64 0, .string ⟨#[]⟩, .int .i64 0, .string ⟨#[]⟩, .int .i64 0, .int .i64 0, .int .i64 0, .bool false, .string ⟨#[]⟩, .string ⟨#[]⟩, .int .i64 0, .int .i64 0, .int .i64 0, .int .i64 0, .int .i64 0, .slice none 0 0]) (t := 45) ?hr ?_; (case hr => first | (go_simp; done) | (go_simp; rfl)); intro g4 hg4 w3 hbx hbl; have X3 := Aside0.mk (blk_below X2.out hbl); have Y3 := Aside0.mk (blk_below Y2.out hbl); have Z3 := Aside0.mk hbx; have L3 := Aside0.mk (below_step L2.out hbl); have M3 := Aside0.mk (show w.heap.size ≤ g4 by rw [hg4]; exact L2.out.size); have N3 := Aside0.mk (show g3 ≠ g4 by rw [hg4]; exact Nat.ne_of_lt (blk_lt Y2.out)); clear X2 Y2 L2 hbx hbl hg4)
  | ((with_reducible refine gate_dst (N := 5) rfl ?_); refine box_event rfl (N := 5) rfl (cs := #[.string ⟨#[]⟩, .bool false]) (t := 110) ?hr ?_; (case hr => first | (go_simp; done) | (go_simp; rfl)); intro g5 hg5 w4 hbx hbl; have HS : Aside0 (Sx w x (.slice none 0 0) g3 g4 g5 gr0 r0 [] w4) := ⟨⟨blk_below Y3.out hbl, blk_below Z3.out hbl, hbx, blk_below X3.out hbl, fun e he => by simp at he, below_step L3.out hbl, M2.out, M3.out, by rw [hg5]; exact L3.out.size, N3.out, by rw [hg5]; exact Nat.ne_of_lt (blk_lt X3.out)⟩⟩; clear X3 Y3 Z3 L3 M1 M2 M3 N3 hbx hbl hg5; have ck : w4.cell? ⟨g3, 1, none⟩ = some (.int .i64 10) := ((blk_cell HS.out.b3 1).trans (show _ = some (Value.int .i64 x.kind) from rfl)).trans (by rw [hk.out]))
  | ((with_reducible refine gate_dst (N := 26) rfl ?_); refine load_ev (N := 26) rfl rfl rfl (cs := #[.string r0.1, .bool r0.2]) rfl HS.out.br Try.underlying110 rfl (by kernel_rfl) ?_))
 clear ck
 refine (h1.out _).mono ?_
 rintro e U1 ⟨rfl, hb⟩
 replace HS := Aside0.mk (HS.out.below hb)
 clear hb
 go_wp2_with (first
  | ((with_reducible refine gate_dst (N := 6) rfl ?_); refine box_event rfl (N := 6) rfl (cs := #[.string ⟨#[]⟩, .int .i64 0]) (t := 40) ?hr ?_; (case hr => first | (go_simp; done) | (go_simp; rfl)); intro gp hgp W6 hbx hbl; have HS_ := Aside0.mk (HS.out.below hbl); have Zp := Aside0.mk hbx; have Fp := Aside0.mk (HS.out.fresh hgp); clear HS hbl hbx hgp; have HS := HS_; clear HS_)
  | ((with_reducible refine gate_dst (N := 7) rfl ?_); refine box_event rfl (N := 7) rfl (cs := #[.string ⟨#[]⟩, .bool false]) (t := 110) ?hr ?_; (case hr => first | (go_simp; done) | (go_simp; rfl)); intro ga hga W7 hbx hbl; have HS_ := Aside0.mk (HS.out.below hbl); have Zr := Aside0.mk hbx; have Fr := Aside0.mk (HS.out.fresh hga); have Zq := Aside0.mk (blk_below Zp.out hbl); have Fq := Aside0.mk (show gp ≠ ga from by rw [hga]; exact Nat.ne_of_lt (blk_lt Zp.out)); clear HS Zp hbl hbx hga; have HS := HS_; clear HS_)
  | ((with_reducible refine gate_store (t := 40) (p := 6) rfl ?_); refine store_ev rfl rfl rfl (cells := #[.string v1.1, .int .i64 v1.2]) rfl rfl Zq.out (by kernel_rfl) rfl (by kernel_rfl) ?_; intro V6 hbx hgr; have HS_ := Aside0.mk (HS.out.place Zq.out hbx hgr Fp.out.2); have Zr_ := Aside0.mk (grown_at hgr Zr.out (blk_types Zr.out Zq.out (by decide))); have Fr_ := Aside0.mk (fresh_cons (ob := .cells #[.string v1.1, .int .i64 v1.2] 40 (0, 0)) Fr.out Fq.out); clear HS Zr Zq Fp Fq Fr hbx hgr; have HS := HS_; have Zr := Zr_; have Fr := Fr_; clear HS_ Zr_ Fr_)
  | ((with_reducible refine gate_store (t := 110) (p := 7) rfl ?_); refine store_ev rfl rfl rfl (cells := #[.string r1.1, .bool r1.2]) rfl rfl Zr.out (by kernel_rfl) rfl (by kernel_rfl) ?_; intro V7 hbx hgr; have HS_ := Aside0.mk (HS.out.reader (r' := r1) Zr.out hbx hgr Fr.out); clear HS Zr Fr hbx hgr; have HS := HS_; clear HS_)
  | ((with_reducible refine gate_dst (N := 31) rfl ?_); refine load_ev (N := 31) rfl rfl rfl (cs := #[.string r1.1, .bool r1.2]) rfl HS.out.br Try.underlying110 rfl (by kernel_rfl) ?_))
 refine (h2.out _).mono ?_
 rintro e U2 ⟨rfl, hb⟩
 replace HS := Aside0.mk (HS.out.below hb)
 clear hb
 go_wp2_with (first
  | ((with_reducible refine gate_dst (N := 9) rfl ?_); refine box_event rfl (N := 9) rfl (cs := #[.string ⟨#[]⟩, .bool false]) (t := 110) ?hr ?_; (case hr => first | (go_simp; done) | (go_simp; rfl)); intro gb hgb W9 hbx hbl; have HS_ := Aside0.mk (HS.out.below hbl); have Zr := Aside0.mk hbx; have Fr := Aside0.mk (HS.out.fresh hgb); clear HS hbl hbx hgb; have HS := HS_; clear HS_)
  | ((with_reducible refine gate_store (t := 110) (p := 9) rfl ?_); refine store_ev rfl rfl rfl (cells := #[.string r2.1, .bool r2.2]) rfl rfl Zr.out (by kernel_rfl) rfl (by kernel_rfl) ?_; intro V9 hbx hgr; have HS_ := Aside0.mk (HS.out.reader (r' := r2) Zr.out hbx hgr Fr.out); clear HS Zr Fr hbx hgr; have HS := HS_; clear HS_)
  | ((with_reducible refine gate_dst (N := 36) rfl ?_); refine load_ev (N := 36) rfl rfl rfl (cs := #[.string r2.1, .bool r2.2]) rfl HS.out.br Try.underlying110 rfl (by kernel_rfl) ?_))
 refine (h3.out _).mono ?_
 rintro e U3 ⟨rfl, hb⟩
 replace HS := Aside0.mk (HS.out.below hb)
 clear hb
 go_wp2_with (first
  | ((with_reducible refine gate_dst (N := 11) rfl ?_); refine box_event rfl (N := 11) rfl (cs := #[.string ⟨#[]⟩, .bool false]) (t := 110) ?hr ?_; (case hr => first | (go_simp; done) | (go_simp; rfl)); intro gc hgc W11 hbx hbl; have HS_ := Aside0.mk (HS.out.below hbl); have Zr := Aside0.mk hbx; have Fr := Aside0.mk (HS.out.fresh hgc); clear HS hbl hbx hgc; have HS := HS_; clear HS_)
  | ((with_reducible refine gate_store (t := 110) (p := 11) rfl ?_); refine store_ev rfl rfl rfl (cells := #[.string r3.1, .bool r3.2]) rfl rfl Zr.out (by kernel_rfl) rfl (by kernel_rfl) ?_; intro V11 hbx hgr; have HS_ := Aside0.mk (HS.out.reader (r' := r3) Zr.out hbx hgr Fr.out); clear HS Zr Fr hbx hgr; have HS := HS_; clear HS_)
  | ((with_reducible refine gate_dst (N := 41) rfl ?_); refine load_ev (N := 41) rfl rfl rfl (cs := #[.string r3.1, .bool r3.2]) rfl HS.out.br Try.underlying110 rfl (by kernel_rfl) ?_))
 refine (h4.out _).mono ?_
 rintro e U4 ⟨rfl, hb⟩
 replace HS := Aside0.mk (HS.out.below hb)
 clear hb
 go_upto_region 6 with (first
  | ((with_reducible refine gate_dst (N := 12) rfl ?_); refine box_event rfl (N := 12) rfl (cs := #[.string ⟨#[]⟩, .int .i64 0]) (t := 40) ?hr ?_; (case hr => first | (go_simp; done) | (go_simp; rfl)); intro gs hgs W12 hbx hbl; have HS_ := Aside0.mk (HS.out.below hbl); have Zp := Aside0.mk hbx; have Fp := Aside0.mk (HS.out.fresh hgs); clear HS hbl hbx hgs; have HS := HS_; clear HS_)
  | ((with_reducible refine gate_dst (N := 13) rfl ?_); refine box_event rfl (N := 13) rfl (cs := #[.string ⟨#[]⟩, .bool false]) (t := 110) ?hr ?_; (case hr => first | (go_simp; done) | (go_simp; rfl)); intro gd hgd W13 hbx hbl; have HS_ := Aside0.mk (HS.out.below hbl); have Zr := Aside0.mk hbx; have Fr := Aside0.mk (HS.out.fresh hgd); have Zq := Aside0.mk (blk_below Zp.out hbl); have Fq := Aside0.mk (show gs ≠ gd from by rw [hgd]; exact Nat.ne_of_lt (blk_lt Zp.out)); clear HS Zp hbl hbx hgd; have HS := HS_; clear HS_)
  | ((with_reducible refine gate_store (t := 40) (p := 12) rfl ?_); refine store_ev rfl rfl rfl (cells := #[.string v4.1, .int .i64 v4.2]) rfl rfl Zq.out (by kernel_rfl) rfl (by kernel_rfl) ?_; intro V12 hbx hgr; have HS_ := Aside0.mk (HS.out.place Zq.out hbx hgr Fp.out.2); have Zr_ := Aside0.mk (grown_at hgr Zr.out (blk_types Zr.out Zq.out (by decide))); have Fr_ := Aside0.mk (fresh_cons (ob := .cells #[.string v4.1, .int .i64 v4.2] 40 (0, 0)) Fr.out Fq.out); clear HS Zr Zq Fp Fq Fr hbx hgr; have HS := HS_; have Zr := Zr_; have Fr := Fr_; clear HS_ Zr_ Fr_)
  | ((with_reducible refine gate_store (t := 110) (p := 13) rfl ?_); refine store_ev rfl rfl rfl (cells := #[.string r4.1, .bool r4.2]) rfl rfl Zr.out (by kernel_rfl) rfl (by kernel_rfl) ?_; intro V13 hbx hgr; have HS_ := Aside0.mk (HS.out.reader (r' := r4) Zr.out hbx hgr Fr.out); clear HS Zr Fr hbx hgr; have HS := HS_; clear HS_))
 have x0 := (HS.out.ex (gp, .cells #[.string v1.1, .int .i64 v1.2] 40 (0, 0)) (by simp)).1
 have q0 := (blk_cell x0 0).trans (show _ = some (Value.string v1.1) from rfl)
 have q1 := (blk_cell x0 1).trans (show _ = some (Value.int .i64 v1.2) from rfl)
 have d0 := (blk_cell HS.out.b3 3).trans (show _ = some _ from rfl)
 have d1 := (blk_cell HS.out.b3 4).trans (show _ = some _ from rfl)
 have f0 := blk_frozen HS.out.b3 3
 have f1 := blk_frozen HS.out.b3 4
 clear x0
 go_upto_region 7 with fail
 obtain ⟨hb2, hg2⟩ := put2 (j := 3) HS.out.b3 (.string v1.1) (.int .i64 v1.2)
 have HS_ := Aside0.mk (HS.out.field (y' := {x with pt := v1.1, pp := v1.2}) (yu' := .slice none 0 0) hb2 hg2)
 clear HS q0 q1 d0 d1 f0 f1 hb2 hg2
 have HS := HS_
 clear HS_
 go_upto_region 9 with (first
  | ((with_reducible refine gate_store (t := 3) (p := 48) rfl ?_); have d0 := (blk_cell HS.out.b3 15).trans (show _ = some _ from rfl); have f0 := blk_frozen HS.out.b3 15; refine fstore_ev rfl rfl rfl (j := 15) (u := .int .i64 v2) HS.out.b3 ?hr ?_; (case hr => first | (go_simp; done) | (go_simp; rfl)); intro V48 hbx hgr; have HS_ := Aside0.mk (HS.out.field (y' := {x with pt := v1.1, pp := v1.2, off := v2}) (yu' := .slice none 0 0) hbx hgr); clear HS hbx hgr d0 f0; have HS := HS_; clear HS_)
  | ((with_reducible refine gate_store (t := 3) (p := 50) rfl ?_); have d0 := (blk_cell HS.out.b3 2).trans (show _ = some _ from rfl); have f0 := blk_frozen HS.out.b3 2; refine fstore_ev rfl rfl rfl (j := 2) (u := .int .i64 v3) HS.out.b3 ?hr ?_; (case hr => first | (go_simp; done) | (go_simp; rfl)); intro V50 hbx hgr; have HS_ := Aside0.mk (HS.out.field (y' := {x with pt := v1.1, pp := v1.2, off := v2, label := v3}) (yu' := .slice none 0 0) hbx hgr); clear HS hbx hgr d0 f0; have HS := HS_; clear HS_))
 have x0 := (HS.out.ex (gs, .cells #[.string v4.1, .int .i64 v4.2] 40 (0, 0)) (by simp)).1
 have q0 := (blk_cell x0 0).trans (show _ = some (Value.string v4.1) from rfl)
 have q1 := (blk_cell x0 1).trans (show _ = some (Value.int .i64 v4.2) from rfl)
 have d0 := (blk_cell HS.out.b3 5).trans (show _ = some _ from rfl)
 have d1 := (blk_cell HS.out.b3 6).trans (show _ = some _ from rfl)
 have f0 := blk_frozen HS.out.b3 5
 have f1 := blk_frozen HS.out.b3 6
 clear x0
 go_upto_region 10 with fail
 obtain ⟨hb2, hg2⟩ := put2 (j := 5) HS.out.b3 (.string v4.1) (.int .i64 v4.2)
 have HS_ := Aside0.mk (HS.out.field (y' := {x with pt := v1.1, pp := v1.2, off := v2, label := v3, tt := v4.1, tp := v4.2}) (yu' := .slice none 0 0) hb2 hg2)
 clear HS q0 q1 d0 d1 f0 f1 hb2 hg2
 have HS := HS_
 clear HS_
 refine ret_pair _ _ _ _ (by kernel_rfl) rfl rfl rfl rfl rfl (by kernel_rfl) (fun _ _ _ _ _ h => h) (d0 := 53) (d1 := 54) (p0 := 3) (p1 := 13) (p2 := 4) (p3 := 5) (T1 := 45) (T2 := 110) rfl rfl rfl rfl rfl rfl rfl rfl rfl rfl rfl rfl HS.out.b3 HS.out.br HS.out.b4 HS.out.b5 Try.underlying45 rfl (by kernel_rfl) Try.underlying110 rfl (by kernel_rfl) rfl rfl (by kernel_rfl) (by kernel_rfl) rfl rfl rfl rfl rfl rfl HS.out.n34 (blk_types HS.out.b3 HS.out.b5 (by decide)) (blk_types HS.out.br HS.out.b4 (by decide)) HS.out.n5r (blk_types HS.out.b4 HS.out.b5 (by decide)) ?_
 intro V b4 b5 hgr
 have HL := Aside0.mk (hgr.below HS.out.bl HS.out.l4 HS.out.l5 HS.out.size)
 have B4 := Aside0.mk b4
 have B5 := Aside0.mk b5
 clear b4 b5 hgr HS
 go_wp2_with fail
 refine bodyPost_ret (results_cc' rfl _ _ g4 g5 45 110 (({x with pt := v1.1, pp := v1.2, off := v2, label := v3, tt := v4.1, tp := v4.2}).cs (.slice none 0 0)) #[.string r4.1, .bool r4.2] (0, 0) (0, 0) _ _ rfl B4.out Try.underlying45 rfl (by kernel_rfl) rfl B5.out Try.underlying110 rfl (by kernel_rfl)) rfl ?_
 rw [HF.out]
 exact ⟨_, rfl, Kd.R_nil _ _ _ _ _, HL.out⟩
set_option maxHeartbeats 16000000 in
set_option maxRecDepth 100000 in
theorem high11_calls (x : Rq) (r0 : Rd) (w : World) (hz : r0.1.size ≤ 100000) (hk0 : x.kind = 11) :
  Calls Try.prog 84 #[.agg #[.string r0.1, .bool r0.2], .agg #[.int .i64 x.id, .int .i64 x.kind, .int .i64 x.label, .string x.pt, .int .i64 x.pp, .string x.tt, .int .i64 x.tp, .string x.sn, .int .i64 x.sp, .int .i64 x.sa, .int .i64 x.ss, .bool x.sc, .string x.grp, .string x.mem, .int .i64 x.gen, .int .i64 x.off, .int .i64 x.most, .int .i64 x.prod, .int .i64 x.seq, .slice none 0 0]] w fun e w' => ∃ u, e = .returned (.tuple #[(refF x r0).y.v u, .agg #[.string (refF x r0).r.1, .bool (refF x r0).r.2]]) ∧ Kd.R k102 102 w' w.heap.size (fun _ => True) u (refF x r0).ps ∧ Below w.heap.size w w' := by
 have z0 : r0.1.size ≤ 100000 := hz
 have h1 := fun W : World => qnum_calls r0 z0 W
 obtain ⟨v1, r1, e1⟩ : ∃ v r, qNum r0 = (v, r) := ⟨_, _, rfl⟩
 rw [e1] at h1
 have h1 := Aside0.mk h1
 have HF : Aside0 (refF x r0 = ⟨{x with label := v1}, [], r1⟩) := ⟨by unfold refF; rw [if_neg (show ¬ x.kind = 3 by omega), if_neg (show ¬ x.kind = 4 by omega), if_neg (show ¬ x.kind = 2 by omega), if_neg (show ¬ x.kind = 1 by omega), if_neg (show ¬ x.kind = 6 by omega), if_neg (show ¬ x.kind = 5 by omega), if_neg (show ¬ x.kind = 7 by omega), if_neg (show ¬ x.kind = 8 by omega), if_neg (show ¬ x.kind = 10 by omega), if_pos hk0]; simp only [e1]⟩
 have hk := Aside0.mk hk0
 clear e1 z0 hz hk0
 go_enter Try.func84, Try.ntmps84
 go_wp2_with (first
  | ((with_reducible refine gate_dst (N := 2) rfl ?_); refine box_event rfl (N := 2) rfl (cs := #[.string r0.1, .bool r0.2]) (t := 110) ?hr ?_; (case hr => first | (go_simp; done) | (go_simp; rfl)); intro gr0 hgr0 w1 hbx hbl; have X1 := Aside0.mk hbx; have L1 := Aside0.mk hbl; have M1 := Aside0.mk (Nat.le_of_eq hgr0.symm); clear hbx hbl hgr0)
  | ((with_reducible refine gate_dst (N := 3) rfl ?_); refine box_event rfl (N := 3) rfl (cs := #[.int .i64 x.id, .int .i64 x.kind, .int .i64 x.label, .string x.pt, .int .i64 x.pp, .string x.tt, .int .i64 x.tp, .string x.sn, .int .i64 x.sp, .int .i64 x.sa, .int .i64 x.ss, .bool x.sc, .string x.grp, .string x.mem, .int .i64 x.gen, .int .i64 x.off, .int .i64 x.most, .int .i64 x.prod, .int .i64 x.seq, .slice none 0 0]) (t := 45) ?hr ?_; (case hr => first | (go_simp; done) | (go_simp; rfl)); intro g3 hg3 w2 hbx hbl; have X2 := Aside0.mk (blk_below X1.out hbl); have Y2 := Aside0.mk hbx; have L2 := Aside0.mk (below_step L1.out hbl); have M2 := Aside0.mk (show w.heap.size ≤ g3 by rw [hg3]; exact L1.out.size); clear X1 L1 hbx hbl hg3)
  | ((with_reducible refine gate_dst (N := 4) rfl ?_); refine box_event rfl (N := 4) rfl (cs := #[.int .i64 0, .int .i64 0, .int .i64 0, .string ⟨#[]⟩, .int .i64 0, .string ⟨#[]⟩, .int .i64 0, .string ⟨#[]⟩, .int .i64 0, .int .i64 0, .int .i64 0, .bool false, .string ⟨#[]⟩, .string ⟨#[]⟩, .int .i64 0, .int .i64 0, .int .i64 0, .int .i64 0, .int .i64 0, .slice none 0 0]) (t := 45) ?hr ?_; (case hr => first | (go_simp; done) | (go_simp; rfl)); intro g4 hg4 w3 hbx hbl; have X3 := Aside0.mk (blk_below X2.out hbl); have Y3 := Aside0.mk (blk_below Y2.out hbl); have Z3 := Aside0.mk hbx; have L3 := Aside0.mk (below_step L2.out hbl); have M3 := Aside0.mk (show w.heap.size ≤ g4 by rw [hg4]; exact L2.out.size); have N3 := Aside0.mk (show g3 ≠ g4 by rw [hg4]; exact Nat.ne_of_lt (blk_lt Y2.out)); clear X2 Y2 L2 hbx hbl hg4)
  | ((with_reducible refine gate_dst (N := 5) rfl ?_); refine box_event rfl (N := 5) rfl (cs := #[.string ⟨#[]⟩, .bool false]) (t := 110) ?hr ?_; (case hr => first | (go_simp; done) | (go_simp; rfl)); intro g5 hg5 w4 hbx hbl; have HS : Aside0 (Sx w x (.slice none 0 0) g3 g4 g5 gr0 r0 [] w4) := ⟨⟨blk_below Y3.out hbl, blk_below Z3.out hbl, hbx, blk_below X3.out hbl, fun e he => by simp at he, below_step L3.out hbl, M2.out, M3.out, by rw [hg5]; exact L3.out.size, N3.out, by rw [hg5]; exact Nat.ne_of_lt (blk_lt X3.out)⟩⟩; clear X3 Y3 Z3 L3 M1 M2 M3 N3 hbx hbl hg5; have ck : w4.cell? ⟨g3, 1, none⟩ = some (.int .i64 11) := ((blk_cell HS.out.b3 1).trans (show _ = some (Value.int .i64 x.kind) from rfl)).trans (by rw [hk.out]))
  | ((with_reducible refine gate_dst (N := 56) rfl ?_); refine load_ev (N := 56) rfl rfl rfl (cs := #[.string r0.1, .bool r0.2]) rfl HS.out.br Try.underlying110 rfl (by kernel_rfl) ?_))
 clear ck
 refine (h1.out _).mono ?_
 rintro e U1 ⟨rfl, hb⟩
 replace HS := Aside0.mk (HS.out.below hb)
 clear hb
 go_upto_region 13 with (first
  | ((with_reducible refine gate_dst (N := 15) rfl ?_); refine box_event rfl (N := 15) rfl (cs := #[.string ⟨#[]⟩, .bool false]) (t := 110) ?hr ?_; (case hr => first | (go_simp; done) | (go_simp; rfl)); intro ga hga W15 hbx hbl; have HS_ := Aside0.mk (HS.out.below hbl); have Zr := Aside0.mk hbx; have Fr := Aside0.mk (HS.out.fresh hga); clear HS hbl hbx hga; have HS := HS_; clear HS_)
  | ((with_reducible refine gate_store (t := 110) (p := 15) rfl ?_); refine store_ev rfl rfl rfl (cells := #[.string r1.1, .bool r1.2]) rfl rfl Zr.out (by kernel_rfl) rfl (by kernel_rfl) ?_; intro V15 hbx hgr; have HS_ := Aside0.mk (HS.out.reader (r' := r1) Zr.out hbx hgr Fr.out); clear HS Zr Fr hbx hgr; have HS := HS_; clear HS_)
  | ((with_reducible refine gate_store (t := 3) (p := 61) rfl ?_); have d0 := (blk_cell HS.out.b3 2).trans (show _ = some _ from rfl); have f0 := blk_frozen HS.out.b3 2; refine fstore_ev rfl rfl rfl (j := 2) (u := .int .i64 v1) HS.out.b3 ?hr ?_; (case hr => first | (go_simp; done) | (go_simp; rfl)); intro V61 hbx hgr; have HS_ := Aside0.mk (HS.out.field (y' := {x with label := v1}) (yu' := .slice none 0 0) hbx hgr); clear HS hbx hgr d0 f0; have HS := HS_; clear HS_))
 have ck := ((blk_cell HS.out.b3 1).trans (show _ = some (Value.int .i64 x.kind) from rfl)).trans (by rw [hk.out] : _ = some (Value.int .i64 11))
 go_upto_region 14 with fail
 clear ck
 refine ret_pair _ _ _ _ (by kernel_rfl) rfl rfl rfl rfl rfl (by kernel_rfl) (fun _ _ _ _ _ h => h) (d0 := 65) (d1 := 66) (p0 := 3) (p1 := 15) (p2 := 4) (p3 := 5) (T1 := 45) (T2 := 110) rfl rfl rfl rfl rfl rfl rfl rfl rfl rfl rfl rfl HS.out.b3 HS.out.br HS.out.b4 HS.out.b5 Try.underlying45 rfl (by kernel_rfl) Try.underlying110 rfl (by kernel_rfl) rfl rfl (by kernel_rfl) (by kernel_rfl) rfl rfl rfl rfl rfl rfl HS.out.n34 (blk_types HS.out.b3 HS.out.b5 (by decide)) (blk_types HS.out.br HS.out.b4 (by decide)) HS.out.n5r (blk_types HS.out.b4 HS.out.b5 (by decide)) ?_
 intro V b4 b5 hgr
 have HL := Aside0.mk (hgr.below HS.out.bl HS.out.l4 HS.out.l5 HS.out.size)
 have B4 := Aside0.mk b4
 have B5 := Aside0.mk b5
 clear b4 b5 hgr HS
 go_wp2_with fail
 refine bodyPost_ret (results_cc' rfl _ _ g4 g5 45 110 (({x with label := v1}).cs (.slice none 0 0)) #[.string r1.1, .bool r1.2] (0, 0) (0, 0) _ _ rfl B4.out Try.underlying45 rfl (by kernel_rfl) rfl B5.out Try.underlying110 rfl (by kernel_rfl)) rfl ?_
 rw [HF.out]
 exact ⟨_, rfl, Kd.R_nil _ _ _ _ _, HL.out⟩
set_option maxHeartbeats 16000000 in
set_option maxRecDepth 100000 in
theorem high9_calls (x : Rq) (r0 : Rd) (w : World) (hz : r0.1.size ≤ 100000) (hk0 : x.kind = 9) :
  Calls Try.prog 84 #[.agg #[.string r0.1, .bool r0.2], .agg #[.int .i64 x.id, .int .i64 x.kind, .int .i64 x.label, .string x.pt, .int .i64 x.pp, .string x.tt, .int .i64 x.tp, .string x.sn, .int .i64 x.sp, .int .i64 x.sa, .int .i64 x.ss, .bool x.sc, .string x.grp, .string x.mem, .int .i64 x.gen, .int .i64 x.off, .int .i64 x.most, .int .i64 x.prod, .int .i64 x.seq, .slice none 0 0]] w fun e w' => ∃ u, e = .returned (.tuple #[(refF x r0).y.v u, .agg #[.string (refF x r0).r.1, .bool (refF x r0).r.2]]) ∧ Kd.R k102 102 w' w.heap.size (fun _ => True) u (refF x r0).ps ∧ Below w.heap.size w w' := by
 have z0 : r0.1.size ≤ 100000 := hz
 have h1 := fun W : World => qnum_calls r0 z0 W
 obtain ⟨v1, r1, e1⟩ : ∃ v r, qNum r0 = (v, r) := ⟨_, _, rfl⟩
 rw [e1] at h1
 have h1 := Aside0.mk h1
 have z1 : r1.1.size ≤ 100000 := by have := qNum_size r0; rw [e1] at this; exact Nat.le_trans this z0
 have h2 := fun W : World => qtext_calls r1 z1 W
 obtain ⟨v2, r2, e2⟩ : ∃ v r, qText r1 = (v, r) := ⟨_, _, rfl⟩
 rw [e2] at h2
 have h2 := Aside0.mk h2
 have z2 : r2.1.size ≤ 100000 := by have := qText_size r1; rw [e2] at this; exact Nat.le_trans this z1
 have h3 := fun W : World => qplace_calls r2 z2 W
 obtain ⟨v3, r3, e3⟩ : ∃ v r, qPlace r2 = (v, r) := ⟨_, _, rfl⟩
 rw [e3] at h3
 have h3 := Aside0.mk h3
 have HF : Aside0 (refF x r0 = ⟨{x with label := v1, grp := v2, pt := v3.1, pp := v3.2}, [], r3⟩) := ⟨by unfold refF; rw [if_neg (show ¬ x.kind = 3 by omega), if_neg (show ¬ x.kind = 4 by omega), if_neg (show ¬ x.kind = 2 by omega), if_neg (show ¬ x.kind = 1 by omega), if_neg (show ¬ x.kind = 6 by omega), if_neg (show ¬ x.kind = 5 by omega), if_neg (show ¬ x.kind = 7 by omega), if_neg (show ¬ x.kind = 8 by omega), if_neg (show ¬ x.kind = 10 by omega), if_neg (show ¬ x.kind = 11 by omega), if_pos hk0]; simp only [e1, e2, e3]⟩
 have hk := Aside0.mk hk0
 clear e1 e2 e3 z0 z1 z2 hz hk0
 go_enter Try.func84, Try.ntmps84
 go_wp2_with (first
  | ((with_reducible refine gate_dst (N := 2) rfl ?_); refine box_event rfl (N := 2) rfl (cs := #[.string r0.1, .bool r0.2]) (t := 110) ?hr ?_; (case hr => first | (go_simp; done) | (go_simp; rfl)); intro gr0 hgr0 w1 hbx hbl; have X1 := Aside0.mk hbx; have L1 := Aside0.mk hbl; have M1 := Aside0.mk (Nat.le_of_eq hgr0.symm); clear hbx hbl hgr0)
  | ((with_reducible refine gate_dst (N := 3) rfl ?_); refine box_event rfl (N := 3) rfl (cs := #[.int .i64 x.id, .int .i64 x.kind, .int .i64 x.label, .string x.pt, .int .i64 x.pp, .string x.tt, .int .i64 x.tp, .string x.sn, .int .i64 x.sp, .int .i64 x.sa, .int .i64 x.ss, .bool x.sc, .string x.grp, .string x.mem, .int .i64 x.gen, .int .i64 x.off, .int .i64 x.most, .int .i64 x.prod, .int .i64 x.seq, .slice none 0 0]) (t := 45) ?hr ?_; (case hr => first | (go_simp; done) | (go_simp; rfl)); intro g3 hg3 w2 hbx hbl; have X2 := Aside0.mk (blk_below X1.out hbl); have Y2 := Aside0.mk hbx; have L2 := Aside0.mk (below_step L1.out hbl); have M2 := Aside0.mk (show w.heap.size ≤ g3 by rw [hg3]; exact L1.out.size); clear X1 L1 hbx hbl hg3)
  | ((with_reducible refine gate_dst (N := 4) rfl ?_); refine box_event rfl (N := 4) rfl (cs := #[.int .i64 0, .int .i64 0, .int .i64 0, .string ⟨#[]⟩, .int .i64 0, .string ⟨#[]⟩, .int .i64 0, .string ⟨#[]⟩, .int .i64 0, .int .i64 0, .int .i64 0, .bool false, .string ⟨#[]⟩, .string ⟨#[]⟩, .int .i64 0, .int .i64 0, .int .i64 0, .int .i64 0, .int .i64 0, .slice none 0 0]) (t := 45) ?hr ?_; (case hr => first | (go_simp; done) | (go_simp; rfl)); intro g4 hg4 w3 hbx hbl; have X3 := Aside0.mk (blk_below X2.out hbl); have Y3 := Aside0.mk (blk_below Y2.out hbl); have Z3 := Aside0.mk hbx; have L3 := Aside0.mk (below_step L2.out hbl); have M3 := Aside0.mk (show w.heap.size ≤ g4 by rw [hg4]; exact L2.out.size); have N3 := Aside0.mk (show g3 ≠ g4 by rw [hg4]; exact Nat.ne_of_lt (blk_lt Y2.out)); clear X2 Y2 L2 hbx hbl hg4)
  | ((with_reducible refine gate_dst (N := 5) rfl ?_); refine box_event rfl (N := 5) rfl (cs := #[.string ⟨#[]⟩, .bool false]) (t := 110) ?hr ?_; (case hr => first | (go_simp; done) | (go_simp; rfl)); intro g5 hg5 w4 hbx hbl; have HS : Aside0 (Sx w x (.slice none 0 0) g3 g4 g5 gr0 r0 [] w4) := ⟨⟨blk_below Y3.out hbl, blk_below Z3.out hbl, hbx, blk_below X3.out hbl, fun e he => by simp at he, below_step L3.out hbl, M2.out, M3.out, by rw [hg5]; exact L3.out.size, N3.out, by rw [hg5]; exact Nat.ne_of_lt (blk_lt X3.out)⟩⟩; clear X3 Y3 Z3 L3 M1 M2 M3 N3 hbx hbl hg5; have ck : w4.cell? ⟨g3, 1, none⟩ = some (.int .i64 9) := ((blk_cell HS.out.b3 1).trans (show _ = some (Value.int .i64 x.kind) from rfl)).trans (by rw [hk.out]))
  | ((with_reducible refine gate_dst (N := 56) rfl ?_); refine load_ev (N := 56) rfl rfl rfl (cs := #[.string r0.1, .bool r0.2]) rfl HS.out.br Try.underlying110 rfl (by kernel_rfl) ?_))
 clear ck
 refine (h1.out _).mono ?_
 rintro e U1 ⟨rfl, hb⟩
 replace HS := Aside0.mk (HS.out.below hb)
 clear hb
 go_upto_region 13 with (first
  | ((with_reducible refine gate_dst (N := 15) rfl ?_); refine box_event rfl (N := 15) rfl (cs := #[.string ⟨#[]⟩, .bool false]) (t := 110) ?hr ?_; (case hr => first | (go_simp; done) | (go_simp; rfl)); intro ga hga W15 hbx hbl; have HS_ := Aside0.mk (HS.out.below hbl); have Zr := Aside0.mk hbx; have Fr := Aside0.mk (HS.out.fresh hga); clear HS hbl hbx hga; have HS := HS_; clear HS_)
  | ((with_reducible refine gate_store (t := 110) (p := 15) rfl ?_); refine store_ev rfl rfl rfl (cells := #[.string r1.1, .bool r1.2]) rfl rfl Zr.out (by kernel_rfl) rfl (by kernel_rfl) ?_; intro V15 hbx hgr; have HS_ := Aside0.mk (HS.out.reader (r' := r1) Zr.out hbx hgr Fr.out); clear HS Zr Fr hbx hgr; have HS := HS_; clear HS_)
  | ((with_reducible refine gate_store (t := 3) (p := 61) rfl ?_); have d0 := (blk_cell HS.out.b3 2).trans (show _ = some _ from rfl); have f0 := blk_frozen HS.out.b3 2; refine fstore_ev rfl rfl rfl (j := 2) (u := .int .i64 v1) HS.out.b3 ?hr ?_; (case hr => first | (go_simp; done) | (go_simp; rfl)); intro V61 hbx hgr; have HS_ := Aside0.mk (HS.out.field (y' := {x with label := v1}) (yu' := .slice none 0 0) hbx hgr); clear HS hbx hgr d0 f0; have HS := HS_; clear HS_))
 have ck := ((blk_cell HS.out.b3 1).trans (show _ = some (Value.int .i64 x.kind) from rfl)).trans (by rw [hk.out] : _ = some (Value.int .i64 9))
 go_wp2_with (first
  | ((with_reducible refine gate_dst (N := 71) rfl ?_); refine load_ev (N := 71) rfl rfl rfl (cs := #[.string r1.1, .bool r1.2]) rfl HS.out.br Try.underlying110 rfl (by kernel_rfl) ?_))
 clear ck
 refine (h2.out _).mono ?_
 rintro e U2 ⟨rfl, hb⟩
 replace HS := Aside0.mk (HS.out.below hb)
 clear hb
 go_wp2_with (first
  | ((with_reducible refine gate_dst (N := 17) rfl ?_); refine box_event rfl (N := 17) rfl (cs := #[.string ⟨#[]⟩, .bool false]) (t := 110) ?hr ?_; (case hr => first | (go_simp; done) | (go_simp; rfl)); intro gb hgb W17 hbx hbl; have HS_ := Aside0.mk (HS.out.below hbl); have Zr := Aside0.mk hbx; have Fr := Aside0.mk (HS.out.fresh hgb); clear HS hbl hbx hgb; have HS := HS_; clear HS_)
  | ((with_reducible refine gate_store (t := 110) (p := 17) rfl ?_); refine store_ev rfl rfl rfl (cells := #[.string r2.1, .bool r2.2]) rfl rfl Zr.out (by kernel_rfl) rfl (by kernel_rfl) ?_; intro V17 hbx hgr; have HS_ := Aside0.mk (HS.out.reader (r' := r2) Zr.out hbx hgr Fr.out); clear HS Zr Fr hbx hgr; have HS := HS_; clear HS_)
  | ((with_reducible refine gate_dst (N := 76) rfl ?_); refine load_ev (N := 76) rfl rfl rfl (cs := #[.string r2.1, .bool r2.2]) rfl HS.out.br Try.underlying110 rfl (by kernel_rfl) ?_))
 refine (h3.out _).mono ?_
 rintro e U3 ⟨rfl, hb⟩
 replace HS := Aside0.mk (HS.out.below hb)
 clear hb
 go_upto_region 19 with (first
  | ((with_reducible refine gate_dst (N := 18) rfl ?_); refine box_event rfl (N := 18) rfl (cs := #[.string ⟨#[]⟩, .int .i64 0]) (t := 40) ?hr ?_; (case hr => first | (go_simp; done) | (go_simp; rfl)); intro gp hgp W18 hbx hbl; have HS_ := Aside0.mk (HS.out.below hbl); have Zp := Aside0.mk hbx; have Fp := Aside0.mk (HS.out.fresh hgp); clear HS hbl hbx hgp; have HS := HS_; clear HS_)
  | ((with_reducible refine gate_dst (N := 19) rfl ?_); refine box_event rfl (N := 19) rfl (cs := #[.string ⟨#[]⟩, .bool false]) (t := 110) ?hr ?_; (case hr => first | (go_simp; done) | (go_simp; rfl)); intro gc hgc W19 hbx hbl; have HS_ := Aside0.mk (HS.out.below hbl); have Zr := Aside0.mk hbx; have Fr := Aside0.mk (HS.out.fresh hgc); have Zq := Aside0.mk (blk_below Zp.out hbl); have Fq := Aside0.mk (show gp ≠ gc from by rw [hgc]; exact Nat.ne_of_lt (blk_lt Zp.out)); clear HS Zp hbl hbx hgc; have HS := HS_; clear HS_)
  | ((with_reducible refine gate_store (t := 40) (p := 18) rfl ?_); refine store_ev rfl rfl rfl (cells := #[.string v3.1, .int .i64 v3.2]) rfl rfl Zq.out (by kernel_rfl) rfl (by kernel_rfl) ?_; intro V18 hbx hgr; have HS_ := Aside0.mk (HS.out.place Zq.out hbx hgr Fp.out.2); have Zr_ := Aside0.mk (grown_at hgr Zr.out (blk_types Zr.out Zq.out (by decide))); have Fr_ := Aside0.mk (fresh_cons (ob := .cells #[.string v3.1, .int .i64 v3.2] 40 (0, 0)) Fr.out Fq.out); clear HS Zr Zq Fp Fq Fr hbx hgr; have HS := HS_; have Zr := Zr_; have Fr := Fr_; clear HS_ Zr_ Fr_)
  | ((with_reducible refine gate_store (t := 110) (p := 19) rfl ?_); refine store_ev rfl rfl rfl (cells := #[.string r3.1, .bool r3.2]) rfl rfl Zr.out (by kernel_rfl) rfl (by kernel_rfl) ?_; intro V19 hbx hgr; have HS_ := Aside0.mk (HS.out.reader (r' := r3) Zr.out hbx hgr Fr.out); clear HS Zr Fr hbx hgr; have HS := HS_; clear HS_)
  | ((with_reducible refine gate_store (t := 9) (p := 81) rfl ?_); have d0 := (blk_cell HS.out.b3 12).trans (show _ = some _ from rfl); have f0 := blk_frozen HS.out.b3 12; refine fstore_ev rfl rfl rfl (j := 12) (u := .string v2) HS.out.b3 ?hr ?_; (case hr => first | (go_simp; done) | (go_simp; rfl)); intro V81 hbx hgr; have HS_ := Aside0.mk (HS.out.field (y' := {x with label := v1, grp := v2}) (yu' := .slice none 0 0) hbx hgr); clear HS hbx hgr d0 f0; have HS := HS_; clear HS_))
 have x0 := (HS.out.ex (gp, .cells #[.string v3.1, .int .i64 v3.2] 40 (0, 0)) (by simp)).1
 have q0 := (blk_cell x0 0).trans (show _ = some (Value.string v3.1) from rfl)
 have q1 := (blk_cell x0 1).trans (show _ = some (Value.int .i64 v3.2) from rfl)
 have d0 := (blk_cell HS.out.b3 3).trans (show _ = some _ from rfl)
 have d1 := (blk_cell HS.out.b3 4).trans (show _ = some _ from rfl)
 have f0 := blk_frozen HS.out.b3 3
 have f1 := blk_frozen HS.out.b3 4
 clear x0
 go_upto_region 20 with fail
 obtain ⟨hb2, hg2⟩ := put2 (j := 3) HS.out.b3 (.string v3.1) (.int .i64 v3.2)
 have HS_ := Aside0.mk (HS.out.field (y' := {x with label := v1, grp := v2, pt := v3.1, pp := v3.2}) (yu' := .slice none 0 0) hb2 hg2)
 clear HS q0 q1 d0 d1 f0 f1 hb2 hg2
 have HS := HS_
 clear HS_
 refine ret_pair _ _ _ _ (by kernel_rfl) rfl rfl rfl rfl rfl (by kernel_rfl) (fun _ _ _ _ _ h => h) (d0 := 84) (d1 := 85) (p0 := 3) (p1 := 19) (p2 := 4) (p3 := 5) (T1 := 45) (T2 := 110) rfl rfl rfl rfl rfl rfl rfl rfl rfl rfl rfl rfl HS.out.b3 HS.out.br HS.out.b4 HS.out.b5 Try.underlying45 rfl (by kernel_rfl) Try.underlying110 rfl (by kernel_rfl) rfl rfl (by kernel_rfl) (by kernel_rfl) rfl rfl rfl rfl rfl rfl HS.out.n34 (blk_types HS.out.b3 HS.out.b5 (by decide)) (blk_types HS.out.br HS.out.b4 (by decide)) HS.out.n5r (blk_types HS.out.b4 HS.out.b5 (by decide)) ?_
 intro V b4 b5 hgr
 have HL := Aside0.mk (hgr.below HS.out.bl HS.out.l4 HS.out.l5 HS.out.size)
 have B4 := Aside0.mk b4
 have B5 := Aside0.mk b5
 clear b4 b5 hgr HS
 go_wp2_with fail
 refine bodyPost_ret (results_cc' rfl _ _ g4 g5 45 110 (({x with label := v1, grp := v2, pt := v3.1, pp := v3.2}).cs (.slice none 0 0)) #[.string r3.1, .bool r3.2] (0, 0) (0, 0) _ _ rfl B4.out Try.underlying45 rfl (by kernel_rfl) rfl B5.out Try.underlying110 rfl (by kernel_rfl)) rfl ?_
 rw [HF.out]
 exact ⟨_, rfl, Kd.R_nil _ _ _ _ _, HL.out⟩
set_option maxHeartbeats 16000000 in
set_option maxRecDepth 100000 in
theorem high12_calls (x : Rq) (r0 : Rd) (w : World) (hz : r0.1.size ≤ 100000) (hk0 : x.kind = 12) :
  Calls Try.prog 84 #[.agg #[.string r0.1, .bool r0.2], .agg #[.int .i64 x.id, .int .i64 x.kind, .int .i64 x.label, .string x.pt, .int .i64 x.pp, .string x.tt, .int .i64 x.tp, .string x.sn, .int .i64 x.sp, .int .i64 x.sa, .int .i64 x.ss, .bool x.sc, .string x.grp, .string x.mem, .int .i64 x.gen, .int .i64 x.off, .int .i64 x.most, .int .i64 x.prod, .int .i64 x.seq, .slice none 0 0]] w fun e w' => ∃ u, e = .returned (.tuple #[(refF x r0).y.v u, .agg #[.string (refF x r0).r.1, .bool (refF x r0).r.2]]) ∧ Kd.R k102 102 w' w.heap.size (fun _ => True) u (refF x r0).ps ∧ Below w.heap.size w w' := by
 have z0 : r0.1.size ≤ 100000 := hz
 have h1 := fun W : World => qnum_calls r0 z0 W
 obtain ⟨v1, r1, e1⟩ : ∃ v r, qNum r0 = (v, r) := ⟨_, _, rfl⟩
 rw [e1] at h1
 have h1 := Aside0.mk h1
 have z1 : r1.1.size ≤ 100000 := by have := qNum_size r0; rw [e1] at this; exact Nat.le_trans this z0
 have h2 := fun W : World => qplace_calls r1 z1 W
 obtain ⟨v2, r2, e2⟩ : ∃ v r, qPlace r1 = (v, r) := ⟨_, _, rfl⟩
 rw [e2] at h2
 have h2 := Aside0.mk h2
 have HF : Aside0 (refF x r0 = ⟨{x with label := v1, pt := v2.1, pp := v2.2}, [], r2⟩) := ⟨by unfold refF; rw [if_neg (show ¬ x.kind = 3 by omega), if_neg (show ¬ x.kind = 4 by omega), if_neg (show ¬ x.kind = 2 by omega), if_neg (show ¬ x.kind = 1 by omega), if_neg (show ¬ x.kind = 6 by omega), if_neg (show ¬ x.kind = 5 by omega), if_neg (show ¬ x.kind = 7 by omega), if_neg (show ¬ x.kind = 8 by omega), if_neg (show ¬ x.kind = 10 by omega), if_neg (show ¬ x.kind = 11 by omega), if_neg (show ¬ x.kind = 9 by omega), if_pos hk0]; simp only [e1, e2]⟩
 have hk := Aside0.mk hk0
 clear e1 e2 z0 z1 hz hk0
 go_enter Try.func84, Try.ntmps84
 go_wp2_with (first
  | ((with_reducible refine gate_dst (N := 2) rfl ?_); refine box_event rfl (N := 2) rfl (cs := #[.string r0.1, .bool r0.2]) (t := 110) ?hr ?_; (case hr => first | (go_simp; done) | (go_simp; rfl)); intro gr0 hgr0 w1 hbx hbl; have X1 := Aside0.mk hbx; have L1 := Aside0.mk hbl; have M1 := Aside0.mk (Nat.le_of_eq hgr0.symm); clear hbx hbl hgr0)
  | ((with_reducible refine gate_dst (N := 3) rfl ?_); refine box_event rfl (N := 3) rfl (cs := #[.int .i64 x.id, .int .i64 x.kind, .int .i64 x.label, .string x.pt, .int .i64 x.pp, .string x.tt, .int .i64 x.tp, .string x.sn, .int .i64 x.sp, .int .i64 x.sa, .int .i64 x.ss, .bool x.sc, .string x.grp, .string x.mem, .int .i64 x.gen, .int .i64 x.off, .int .i64 x.most, .int .i64 x.prod, .int .i64 x.seq, .slice none 0 0]) (t := 45) ?hr ?_; (case hr => first | (go_simp; done) | (go_simp; rfl)); intro g3 hg3 w2 hbx hbl; have X2 := Aside0.mk (blk_below X1.out hbl); have Y2 := Aside0.mk hbx; have L2 := Aside0.mk (below_step L1.out hbl); have M2 := Aside0.mk (show w.heap.size ≤ g3 by rw [hg3]; exact L1.out.size); clear X1 L1 hbx hbl hg3)
  | ((with_reducible refine gate_dst (N := 4) rfl ?_); refine box_event rfl (N := 4) rfl (cs := #[.int .i64 0, .int .i64 0, .int .i64 0, .string ⟨#[]⟩, .int .i64 0, .string ⟨#[]⟩, .int .i64 0, .string ⟨#[]⟩, .int .i64 0, .int .i64 0, .int .i64 0, .bool false, .string ⟨#[]⟩, .string ⟨#[]⟩, .int .i64 0, .int .i64 0, .int .i64 0, .int .i64 0, .int .i64 0, .slice none 0 0]) (t := 45) ?hr ?_; (case hr => first | (go_simp; done) | (go_simp; rfl)); intro g4 hg4 w3 hbx hbl; have X3 := Aside0.mk (blk_below X2.out hbl); have Y3 := Aside0.mk (blk_below Y2.out hbl); have Z3 := Aside0.mk hbx; have L3 := Aside0.mk (below_step L2.out hbl); have M3 := Aside0.mk (show w.heap.size ≤ g4 by rw [hg4]; exact L2.out.size); have N3 := Aside0.mk (show g3 ≠ g4 by rw [hg4]; exact Nat.ne_of_lt (blk_lt Y2.out)); clear X2 Y2 L2 hbx hbl hg4)
  | ((with_reducible refine gate_dst (N := 5) rfl ?_); refine box_event rfl (N := 5) rfl (cs := #[.string ⟨#[]⟩, .bool false]) (t := 110) ?hr ?_; (case hr => first | (go_simp; done) | (go_simp; rfl)); intro g5 hg5 w4 hbx hbl; have HS : Aside0 (Sx w x (.slice none 0 0) g3 g4 g5 gr0 r0 [] w4) := ⟨⟨blk_below Y3.out hbl, blk_below Z3.out hbl, hbx, blk_below X3.out hbl, fun e he => by simp at he, below_step L3.out hbl, M2.out, M3.out, by rw [hg5]; exact L3.out.size, N3.out, by rw [hg5]; exact Nat.ne_of_lt (blk_lt X3.out)⟩⟩; clear X3 Y3 Z3 L3 M1 M2 M3 N3 hbx hbl hg5; have ck : w4.cell? ⟨g3, 1, none⟩ = some (.int .i64 12) := ((blk_cell HS.out.b3 1).trans (show _ = some (Value.int .i64 x.kind) from rfl)).trans (by rw [hk.out]))
  | ((with_reducible refine gate_dst (N := 56) rfl ?_); refine load_ev (N := 56) rfl rfl rfl (cs := #[.string r0.1, .bool r0.2]) rfl HS.out.br Try.underlying110 rfl (by kernel_rfl) ?_))
 clear ck
 refine (h1.out _).mono ?_
 rintro e U1 ⟨rfl, hb⟩
 replace HS := Aside0.mk (HS.out.below hb)
 clear hb
 go_upto_region 13 with (first
  | ((with_reducible refine gate_dst (N := 15) rfl ?_); refine box_event rfl (N := 15) rfl (cs := #[.string ⟨#[]⟩, .bool false]) (t := 110) ?hr ?_; (case hr => first | (go_simp; done) | (go_simp; rfl)); intro ga hga W15 hbx hbl; have HS_ := Aside0.mk (HS.out.below hbl); have Zr := Aside0.mk hbx; have Fr := Aside0.mk (HS.out.fresh hga); clear HS hbl hbx hga; have HS := HS_; clear HS_)
  | ((with_reducible refine gate_store (t := 110) (p := 15) rfl ?_); refine store_ev rfl rfl rfl (cells := #[.string r1.1, .bool r1.2]) rfl rfl Zr.out (by kernel_rfl) rfl (by kernel_rfl) ?_; intro V15 hbx hgr; have HS_ := Aside0.mk (HS.out.reader (r' := r1) Zr.out hbx hgr Fr.out); clear HS Zr Fr hbx hgr; have HS := HS_; clear HS_)
  | ((with_reducible refine gate_store (t := 3) (p := 61) rfl ?_); have d0 := (blk_cell HS.out.b3 2).trans (show _ = some _ from rfl); have f0 := blk_frozen HS.out.b3 2; refine fstore_ev rfl rfl rfl (j := 2) (u := .int .i64 v1) HS.out.b3 ?hr ?_; (case hr => first | (go_simp; done) | (go_simp; rfl)); intro V61 hbx hgr; have HS_ := Aside0.mk (HS.out.field (y' := {x with label := v1}) (yu' := .slice none 0 0) hbx hgr); clear HS hbx hgr d0 f0; have HS := HS_; clear HS_))
 have ck := ((blk_cell HS.out.b3 1).trans (show _ = some (Value.int .i64 x.kind) from rfl)).trans (by rw [hk.out] : _ = some (Value.int .i64 12))
 go_wp2_with (first
  | ((with_reducible refine gate_dst (N := 87) rfl ?_); refine load_ev (N := 87) rfl rfl rfl (cs := #[.string r1.1, .bool r1.2]) rfl HS.out.br Try.underlying110 rfl (by kernel_rfl) ?_))
 clear ck
 refine (h2.out _).mono ?_
 rintro e U2 ⟨rfl, hb⟩
 replace HS := Aside0.mk (HS.out.below hb)
 clear hb
 go_upto_region 22 with (first
  | ((with_reducible refine gate_dst (N := 20) rfl ?_); refine box_event rfl (N := 20) rfl (cs := #[.string ⟨#[]⟩, .int .i64 0]) (t := 40) ?hr ?_; (case hr => first | (go_simp; done) | (go_simp; rfl)); intro gp hgp W20 hbx hbl; have HS_ := Aside0.mk (HS.out.below hbl); have Zp := Aside0.mk hbx; have Fp := Aside0.mk (HS.out.fresh hgp); clear HS hbl hbx hgp; have HS := HS_; clear HS_)
  | ((with_reducible refine gate_dst (N := 21) rfl ?_); refine box_event rfl (N := 21) rfl (cs := #[.string ⟨#[]⟩, .bool false]) (t := 110) ?hr ?_; (case hr => first | (go_simp; done) | (go_simp; rfl)); intro gb hgb W21 hbx hbl; have HS_ := Aside0.mk (HS.out.below hbl); have Zr := Aside0.mk hbx; have Fr := Aside0.mk (HS.out.fresh hgb); have Zq := Aside0.mk (blk_below Zp.out hbl); have Fq := Aside0.mk (show gp ≠ gb from by rw [hgb]; exact Nat.ne_of_lt (blk_lt Zp.out)); clear HS Zp hbl hbx hgb; have HS := HS_; clear HS_)
  | ((with_reducible refine gate_store (t := 40) (p := 20) rfl ?_); refine store_ev rfl rfl rfl (cells := #[.string v2.1, .int .i64 v2.2]) rfl rfl Zq.out (by kernel_rfl) rfl (by kernel_rfl) ?_; intro V20 hbx hgr; have HS_ := Aside0.mk (HS.out.place Zq.out hbx hgr Fp.out.2); have Zr_ := Aside0.mk (grown_at hgr Zr.out (blk_types Zr.out Zq.out (by decide))); have Fr_ := Aside0.mk (fresh_cons (ob := .cells #[.string v2.1, .int .i64 v2.2] 40 (0, 0)) Fr.out Fq.out); clear HS Zr Zq Fp Fq Fr hbx hgr; have HS := HS_; have Zr := Zr_; have Fr := Fr_; clear HS_ Zr_ Fr_)
  | ((with_reducible refine gate_store (t := 110) (p := 21) rfl ?_); refine store_ev rfl rfl rfl (cells := #[.string r2.1, .bool r2.2]) rfl rfl Zr.out (by kernel_rfl) rfl (by kernel_rfl) ?_; intro V21 hbx hgr; have HS_ := Aside0.mk (HS.out.reader (r' := r2) Zr.out hbx hgr Fr.out); clear HS Zr Fr hbx hgr; have HS := HS_; clear HS_))
 have x0 := (HS.out.ex (gp, .cells #[.string v2.1, .int .i64 v2.2] 40 (0, 0)) (by simp)).1
 have q0 := (blk_cell x0 0).trans (show _ = some (Value.string v2.1) from rfl)
 have q1 := (blk_cell x0 1).trans (show _ = some (Value.int .i64 v2.2) from rfl)
 have d0 := (blk_cell HS.out.b3 3).trans (show _ = some _ from rfl)
 have d1 := (blk_cell HS.out.b3 4).trans (show _ = some _ from rfl)
 have f0 := blk_frozen HS.out.b3 3
 have f1 := blk_frozen HS.out.b3 4
 clear x0
 go_upto_region 23 with fail
 obtain ⟨hb2, hg2⟩ := put2 (j := 3) HS.out.b3 (.string v2.1) (.int .i64 v2.2)
 have HS_ := Aside0.mk (HS.out.field (y' := {x with label := v1, pt := v2.1, pp := v2.2}) (yu' := .slice none 0 0) hb2 hg2)
 clear HS q0 q1 d0 d1 f0 f1 hb2 hg2
 have HS := HS_
 clear HS_
 refine ret_pair _ _ _ _ (by kernel_rfl) rfl rfl rfl rfl rfl (by kernel_rfl) (fun _ _ _ _ _ h => h) (d0 := 93) (d1 := 94) (p0 := 3) (p1 := 21) (p2 := 4) (p3 := 5) (T1 := 45) (T2 := 110) rfl rfl rfl rfl rfl rfl rfl rfl rfl rfl rfl rfl HS.out.b3 HS.out.br HS.out.b4 HS.out.b5 Try.underlying45 rfl (by kernel_rfl) Try.underlying110 rfl (by kernel_rfl) rfl rfl (by kernel_rfl) (by kernel_rfl) rfl rfl rfl rfl rfl rfl HS.out.n34 (blk_types HS.out.b3 HS.out.b5 (by decide)) (blk_types HS.out.br HS.out.b4 (by decide)) HS.out.n5r (blk_types HS.out.b4 HS.out.b5 (by decide)) ?_
 intro V b4 b5 hgr
 have HL := Aside0.mk (hgr.below HS.out.bl HS.out.l4 HS.out.l5 HS.out.size)
 have B4 := Aside0.mk b4
 have B5 := Aside0.mk b5
 clear b4 b5 hgr HS
 go_wp2_with fail
 refine bodyPost_ret (results_cc' rfl _ _ g4 g5 45 110 (({x with label := v1, pt := v2.1, pp := v2.2}).cs (.slice none 0 0)) #[.string r2.1, .bool r2.2] (0, 0) (0, 0) _ _ rfl B4.out Try.underlying45 rfl (by kernel_rfl) rfl B5.out Try.underlying110 rfl (by kernel_rfl)) rfl ?_
 rw [HF.out]
 exact ⟨_, rfl, Kd.R_nil _ _ _ _ _, HL.out⟩
end Go.Proofs.Ytlgihjhlkpmpnaa.Wire
