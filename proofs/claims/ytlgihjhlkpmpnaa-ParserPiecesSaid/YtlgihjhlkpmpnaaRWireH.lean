import Derived.Test.YtlgihjhlkpmpnaaRWireG
namespace Go.Proofs.Ytlgihjhlkpmpnaa.Wire
set_option linter.unusedVariables false
set_option linter.unusedSimpArgs false
open Go.RowKit Go.Proofs.YtlgihjhlkpmpnaaW.PrintWords Go.Proofs.YtlgihjhlkpmpnaaW.PrintLast Go.Proofs.YtlgihjhlkpmpnaaW.PrintMore Go.Proofs.Ytlgihjhlkpmpnaa.Hand Go.Proofs.Ytlgihjhlkpmpnaa.PWire Go.Proofs.Ytlgihjhlkpmpnaa.PureNums

structure Sr (w0 w : World) (y : Rq) (yu : Value) (ps : List S102) (zs : Array Value) (g3 g4 gi gb : Nat) (s : ByteArray) (pos : Nat) (r : Rd) (W : World) : Prop where
  b3 : W.heap[g3]? = some (.cells (y.cs yu) 45 (0, 0))
  b4 : W.heap[g4]? = some (.cells zs 45 (0, 0))
  bi : W.heap[gi]? = some (.stringIter s pos)
  I : IsS108 w0 W gb r.1 r.2
  bl : Below w0.heap.size w0 W
  rp : Kd.R k102 102 W w.heap.size (fun _ => True) yu ps
  kp : KeepBut w W gb none
  l3 : w.heap.size ≤ g3
  l4 : w.heap.size ≤ g4
  li : w.heap.size ≤ gi
  lb : gb < w.heap.size
  lw : w0.heap.size ≤ w.heap.size
  n34 : g3 ≠ g4
theorem keep_grown {w W W' : World} {gb g : Nat} (h : KeepBut w W gb none) (hg : W.grownBy W' (some g)) (hl : w.heap.size ≤ g) : KeepBut w W' gb none :=
  ⟨Nat.le_trans h.1 hg.size, fun i hi h1 h2 => (hg.block i (Nat.lt_of_lt_of_le hi h.1) (fun e => by have := Option.some.inj e; omega)).trans (h.2 i hi h1 h2)⟩
theorem keep_below {w W W' : World} {gb : Nat} (h : KeepBut w W gb none) (hb : Below W.heap.size W W') : KeepBut w W' gb none :=
  ⟨Nat.le_trans h.1 hb.size, fun i hi h1 h2 => (hb.block i (Nat.lt_of_lt_of_le hi h.1)).trans (h.2 i hi h1 h2)⟩
theorem keep_keep {w W W' : World} {gb : Nat} (h : KeepBut w W gb none) (hk : KeepBut W W' gb none) : KeepBut w W' gb none :=
  ⟨Nat.le_trans h.1 hk.1, fun i hi h1 h2 => (hk.2 i (Nat.lt_of_lt_of_le hi h.1) h1 h2).trans (h.2 i hi h1 h2)⟩
theorem blk_keep {W W' : World} {gb g : Nat} {ob : Obj} (h : W.heap[g]? = some ob) (hk : KeepBut W W' gb none) (hne : g ≠ gb) : W'.heap[g]? = some ob := (hk.2 g (blk_lt h) hne (by simp)).trans h
section
variable {w0 w : World} {y y' : Rq} {yu yu' : Value} {ps ps' : List S102} {zs : Array Value} {g3 g4 gi gb : Nat} {s : ByteArray} {pos : Nat} {r r' : Rd} {W W' : World}
theorem Sr.below (h : Sr w0 w y yu ps zs g3 g4 gi gb s pos r W) (hb : Below W.heap.size W W') : Sr w0 w y yu ps zs g3 g4 gi gb s pos r W' :=
  ⟨blk_below h.b3 hb, blk_below h.b4 hb, blk_below h.bi hb, h.I.below hb, below_step h.bl hb, Kd.R_below h.rp hb, keep_below h.kp hb, h.l3, h.l4, h.li, h.lb, h.lw, h.n34⟩
theorem Sr.grownI (h : Sr w0 w y yu ps zs g3 g4 gi gb s pos r W) {g : Nat} (hg : W.grownBy W' (some g)) (hl : w.heap.size ≤ g) : IsS108 w0 W' gb r.1 r.2 := ⟨grown_at hg h.I.1 (by have := h.lb; omega), h.I.2⟩
theorem Sr.grownL (h : Sr w0 w y yu ps zs g3 g4 gi gb s pos r W) {g : Nat} (hg : W.grownBy W' (some g)) (hl : w.heap.size ≤ g) : Below w0.heap.size w0 W' := below_put h.bl (Nat.le_trans h.lw hl) hg h.bl.size
theorem Sr.next (h : Sr w0 w y yu ps zs g3 g4 gi gb s pos r W) (hi : W'.heap[gi]? = some (.stringIter s (pos + 1))) (hg : W.grownBy W' (some gi)) : Sr w0 w y yu ps zs g3 g4 gi gb s (pos + 1) r W' :=
  have ne : ∀ {g : Nat} {cs : Array Value} {t : TypeId}, W.heap[g]? = some (.cells cs t (0, 0)) → g ≠ gi := fun hc e => by rw [e, h.bi] at hc; simp at hc
  ⟨grown_at hg h.b3 (ne h.b3), grown_at hg h.b4 (ne h.b4), hi, h.grownI hg h.li, h.grownL hg h.li, pairs_grown h.rp hg (fun cells e => by rw [h.bi] at e; simp at e), keep_grown h.kp hg h.li, h.l3, h.l4, h.li, h.lb, h.lw, h.n34⟩
theorem Sr.store (h : Sr w0 w y yu ps zs g3 g4 gi gb s pos r W) (h3 : W'.heap[g3]? = some (.cells (y'.cs yu) 45 (0, 0))) (hg : W.grownBy W' (some g3)) : Sr w0 w y' yu ps zs g3 g4 gi gb s pos r W' :=
  ⟨h3, grown_at hg h.b4 (Ne.symm h.n34), grown_at hg h.bi (fun e => by have := h.bi; rw [e, h.b3] at this; simp at this), h.grownI hg h.l3, h.grownL hg h.l3, pairs_grown h.rp hg (fun cells e => by rw [h.b3] at e; simp at e), keep_grown h.kp hg h.l3, h.l3, h.l4, h.li, h.lb, h.lw, h.n34⟩
theorem Sr.putPairs (h : Sr w0 w y yu ps zs g3 g4 gi gb s pos r W) (hr : Kd.R k102 102 W w.heap.size (fun _ => True) yu' ps') (h3 : W'.heap[g3]? = some (.cells (y.cs yu') 45 (0, 0))) (hg : W.grownBy W' (some g3)) : Sr w0 w y yu' ps' zs g3 g4 gi gb s pos r W' :=
  ⟨h3, grown_at hg h.b4 (Ne.symm h.n34), grown_at hg h.bi (fun e => by have := h.bi; rw [e, h.b3] at this; simp at this), h.grownI hg h.l3, h.grownL hg h.l3, pairs_grown hr hg (fun cells e => by rw [h.b3] at e; simp at e), keep_grown h.kp hg h.l3, h.l3, h.l4, h.li, h.lb, h.lw, h.n34⟩
theorem Sr.call (h : Sr w0 w y yu ps zs g3 g4 gi gb s pos r W) (hI : IsS108 w0 W' gb r'.1 r'.2) (hb : Below w0.heap.size w0 W') (hk : KeepBut W W' gb none) : Sr w0 w y yu ps zs g3 g4 gi gb s pos r' W' :=
  have lb := h.lb
  have l3 := h.l3
  have l4 := h.l4
  have li := h.li
  ⟨blk_keep h.b3 hk (by omega), blk_keep h.b4 hk (by omega), blk_keep h.bi hk (by omega), hI, hb, Kd.R_mono (Kd.R_keep (Kd.R_bound h.rp) hk (fun k hk2 => by have := hk2.2.1; omega)) (fun _ _ => trivial), keep_keep h.kp hk, h.l3, h.l4, h.li, h.lb, h.lw, h.n34⟩
end
theorem load_run {P : Program} {o : Oper} {a : Act} {W : World} {ty : TypeId} {p : Tmp} (ho : o.op = .load ty (.tmp p)) {g : Nat} (hx : a.eval (.tmp p) = .pointer (some ⟨g, 0, none⟩)) {t : TypeId} {cs : Array Value} {d : TypeDesc} (hg : W.heap[g]? = some (.cells cs t (0, 0)))
    (hu : P.underlying ty = some d) (hd : (match d with | .struct _ | .array _ _ => true | _ => false) = true) (hi : (P.info? ty).map (·.size) = some cs.size) : (execOp a.eval o).run P W = .ok (.value (.agg cs)) W := by
  unfold execOp
  simp only [ho, hx, Instr.loadAt, Instr.sureAddr, Sem.run_bind, Sem.run_pure, Result.andThen_ok, run_loadVar_row W g t ty cs (0, 0) d hg hu hd hi]
theorem store_run {P : Program} {o : Oper} {a : Act} {W : World} {ty : TypeId} {p : Tmp} {q : Operand} (ho : o.op = .store ty (.tmp p) q) {g : Nat} {cells : Array Value} (hx : a.eval (.tmp p) = .pointer (some ⟨g, 0, none⟩)) (hy : a.eval q = .agg cells)
    {t : TypeId} {old : Array Value} (hg : W.heap[g]? = some (.cells old t (0, 0))) (hi : (P.info? ty).map (·.size) = some cells.size) (hold : old.size = cells.size) (h1 : cells.all (·.oneCell') = true) : (execOp a.eval o).run P W = .ok .skip (W.setRow g cells) := by
  unfold execOp
  simp only [ho, hx, hy, Instr.storeAt, Instr.sureAddr, Sem.run_bind, Sem.run_pure, Result.andThen_ok, run_storeVar_row W g t ty old cells hg hi hold h1]

set_option maxHeartbeats 16000000 in
set_option maxRecDepth 100000 in
theorem request_calls (x : Rq) (r0 : Rd) (gb : Nat) (w0 w : World) (hI : IsS108 w0 w gb r0.1 r0.2) (hB : Below w0.heap.size w0 w) (hz : r0.1.size ≤ 100000) :
    Calls Try.prog 54 #[.pointer (some ⟨gb, 0, none⟩), .agg #[.int .i64 x.id, .int .i64 x.kind, .int .i64 x.label, .string x.pt, .int .i64 x.pp, .string x.tt, .int .i64 x.tp, .string x.sn, .int .i64 x.sp, .int .i64 x.sa, .int .i64 x.ss, .bool x.sc, .string x.grp, .string x.mem, .int .i64 x.gen, .int .i64 x.off, .int .i64 x.most, .int .i64 x.prod, .int .i64 x.seq, .slice none 0 0]] w fun e w' => ∃ u, e = .returned ((reqL x r0 (lets (formF x.kind))).y.v u) ∧ Kd.R k102 102 w' w.heap.size (fun _ => True) u (reqL x r0 (lets (formF x.kind))).ps ∧ IsS108 w0 w' gb (reqL x r0 (lets (formF x.kind))).r.1 (reqL x r0 (lets (formF x.kind))).r.2 ∧ Below w0.heap.size w0 w' ∧ KeepBut w w' gb none := by
  have HI := Aside0.mk hI
  have HB := Aside0.mk hB
  have HGB := Aside0.mk (blk_lt hI.1)
  have hasc := Aside0.mk (formF_ascii x.kind)
  have hform := Aside0.mk (fun W : World => form_calls x.kind W)
  generalize formF x.kind = s at *
  have HZ := Aside0.mk hz
  clear hI hB hz
  go_enter Try.func54, Try.ntmps54
  go_wp2_with (first
    | ((with_reducible refine gate_dst (N := 3) rfl ?_); refine box_event rfl (N := 3) rfl (cs := #[.int .i64 x.id, .int .i64 x.kind, .int .i64 x.label, .string x.pt, .int .i64 x.pp, .string x.tt, .int .i64 x.tp, .string x.sn, .int .i64 x.sp, .int .i64 x.sa, .int .i64 x.ss, .bool x.sc, .string x.grp, .string x.mem, .int .i64 x.gen, .int .i64 x.off, .int .i64 x.most, .int .i64 x.prod, .int .i64 x.seq, .slice none 0 0]) (t := 45) ?hr ?_; (case hr => first | (go_simp; done) | (go_simp; rfl)); intro g3 hg3 w1 hbx hbl; have X1 := Aside0.mk hbx; have L1 := Aside0.mk hbl; have G1 := Aside0.mk (Nat.le_of_eq hg3.symm); clear hbx hbl hg3)
    | ((with_reducible refine gate_dst (N := 4) rfl ?_); refine box_event rfl (N := 4) rfl (cs := #[.int .i64 0, .int .i64 0, .int .i64 0, .string ⟨#[]⟩, .int .i64 0, .string ⟨#[]⟩, .int .i64 0, .string ⟨#[]⟩, .int .i64 0, .int .i64 0, .int .i64 0, .bool false, .string ⟨#[]⟩, .string ⟨#[]⟩, .int .i64 0, .int .i64 0, .int .i64 0, .int .i64 0, .int .i64 0, .slice none 0 0]) (t := 45) ?hr ?_; (case hr => first | (go_simp; done) | (go_simp; rfl)); intro g4 hg4 w2 hbx hbl; have X2 := Aside0.mk (blk_below X1.out hbl); have Y2 := Aside0.mk hbx; have L2 := Aside0.mk (below_step L1.out hbl); have G2 := Aside0.mk (show w.heap.size ≤ g4 by rw [hg4]; exact L1.out.size); have N2 := Aside0.mk (show g3 ≠ g4 by rw [hg4]; exact Nat.ne_of_lt (blk_lt X1.out)); clear X1 L1 hbx hbl hg4; have c1 : w2.cell? ⟨g3, 1, none⟩ = some (.int .i64 x.kind) := (blk_cell X2.out 1).trans rfl))
  go_step3
  go_wp2_with fail
  go_step3
  go_wp2_with fail
  refine (hform.out _).mono ?_
  rintro e w3 ⟨rfl, hb⟩
  have X3 := Aside0.mk (blk_below X2.out hb)
  have Y3 := Aside0.mk (blk_below Y2.out hb)
  have L3 := Aside0.mk (below_step L2.out hb)
  clear hb X2 Y2 L2 c1
  go_wp2_with ((with_reducible refine gate_dst (N := 14) rfl ?_); refine Aside0.out ?_)
  constructor
  refine range_ev (N := 14) rfl rfl (s := s) (by first | (go_simp; done) | (go_simp; rfl)) ?_
  intro gi hgi w6 hbi hbl
  have HS : Aside0 (Sr w0 w x (.slice none 0 0) [] #[.int .i64 0, .int .i64 0, .int .i64 0, .string ⟨#[]⟩, .int .i64 0, .string ⟨#[]⟩, .int .i64 0, .string ⟨#[]⟩, .int .i64 0, .int .i64 0, .int .i64 0, .bool false, .string ⟨#[]⟩, .string ⟨#[]⟩, .int .i64 0, .int .i64 0, .int .i64 0, .int .i64 0, .int .i64 0, .slice none 0 0] g3 g4 gi gb s 0 r0 w6) := ⟨⟨blk_below X3.out hbl, blk_below Y3.out hbl, hbi, (HI.out.below L3.out).below hbl, below_step (below_step HB.out L3.out) hbl, Kd.R_nil _ _ _ _ _, ⟨Nat.le_trans L3.out.size hbl.size, fun i hi _ _ => (hbl.block i (Nat.lt_of_lt_of_le hi L3.out.size)).trans (L3.out.block i hi)⟩, G1.out, G2.out, by rw [hgi]; exact L3.out.size, HGB.out, HB.out.size, N2.out⟩⟩
  clear X3 Y3 L3 hbi hbl hgi G1 G2 N2 HI HB
  go_wp2_with fail
  go_frame
  go_loopw [6] (fun _ wr => ∃ (pos : Nat) (y : Rq) (yu : Value) (ps : List S102) (r : Rd), pos ≤ s.size ∧ Aside0 (r.1.size ≤ 100000) ∧ Aside0 (Sr w0 w y yu ps #[.int .i64 0, .int .i64 0, .int .i64 0, .string ⟨#[]⟩, .int .i64 0, .string ⟨#[]⟩, .int .i64 0, .string ⟨#[]⟩, .int .i64 0, .int .i64 0, .int .i64 0, .bool false, .string ⟨#[]⟩, .string ⟨#[]⟩, .int .i64 0, .int .i64 0, .int .i64 0, .int .i64 0, .int .i64 0, .slice none 0 0] g3 g4 gi gb s pos r wr) ∧ Aside0 (Rst.mk y ps r = reqL x r0 ((lets s).take pos))) (fun _ wr => s.size - wr.iterPos gi)
  case atStart => exact ⟨0, _, _, _, _, Nat.zero_le _, HZ, HS, ⟨rfl⟩⟩
  case round =>
    clear HS HZ
    obtain ⟨pos, y, yu, ps, r, hle, HZ, HS, HY⟩ := hrel
    by_cases hlt0 : pos < s.size
    · have hlt := Aside0.mk hlt0
      have hip := Aside0.mk (iterPos_of HS.out.bi)
      obtain ⟨c, hc⟩ : ∃ c : Int, ((s[pos]'hlt0).toNat : Int) = c := ⟨_, rfl⟩
      have HC : Aside0 (∃ h0 : pos < s.size, (s[pos]'h0).toNat < 128 ∧ ((s[pos]'h0).toNat : Int) = c) := ⟨hlt0, hasc.out pos hlt0, hc⟩
      have HLA := Aside0.mk (lets_at s pos hlt0)
      rw [hc] at HLA
      have hnext : Aside0 (∀ t : Rst, t = reqStep ⟨y, ps, r⟩ c → t = reqL x r0 ((lets s).take (pos + 1)) ∧ t.r.1.size ≤ 100000) := ⟨fun t ht => ⟨by rw [ht, HLA.out, reqL_snoc, ← HY.out], by rw [ht]; exact Nat.le_trans (reqStep_size _ _) HZ.out⟩⟩
      have hstep : Aside0 (reqStep ⟨y, ps, r⟩ c = (if (numF y c).2 = true then ⟨setNum y c (rdNum r).1, ps, (rdNum r).2⟩
  else if (textF y c).2 = true then ⟨setText y c (rdText r).1, ps, (rdText r).2⟩
  else if c = 66 then ⟨y, (rdPairs r).1, (rdPairs r).2⟩
  else if c = 67 then ⟨{y with sn := (rdSpec r).1.n, sp := (rdSpec r).1.p, sa := (rdSpec r).1.a, ss := (rdSpec r).1.z, sc := (rdSpec r).1.c}, ps, (rdSpec r).2⟩
  else ⟨y, ps, r⟩)) := ⟨rfl⟩
      clear hc hlt0 hle HY
      obtain ⟨B, m, hyu⟩ := Kd.R_slice HS.out.rp
      subst hyu
      have hnum := Aside0.mk (fun W : World => number_calls y B ps.length m c W)
      have htxt := Aside0.mk (fun W : World => text_calls y B ps.length m c W)
      have rnum := Aside0.mk (fun (W : World) (hI : IsS108 w0 W gb r.1 r.2) (hB : Below w0.heap.size w0 W) => wire_reader_number.calls 100 gb r.1 r.2 _ _ _ w0 W hI hB (rdNum_some r 100 (by omega)))
      have rtxt := Aside0.mk (fun (W : World) (hI : IsS108 w0 W gb r.1 r.2) (hB : Below w0.heap.size w0 W) => wire_reader_text.calls 100 gb r.1 r.2 _ _ _ w0 W hI hB (rdText_some r 100 (by omega) (by have := HZ.out; omega)))
      have rprs := Aside0.mk (fun (W : World) (hI : IsS108 w0 W gb r.1 r.2) (hB : Below w0.heap.size w0 W) => wire_reader_pairs.calls 100 gb r.1 r.2 _ _ _ w0 W hI hB (rdPairs_some r 100 (by omega) HZ.out))
      have rspc := Aside0.mk (fun (W : World) (hI : IsS108 w0 W gb r.1 r.2) (hB : Below w0.heap.size w0 W) => wire_reader_spec.calls 100 gb r.1 r.2 _ _ _ _ _ _ _ w0 W hI hB (rdSpec_some r 100 (by omega) HZ.out))
      clear HZ
      by_cases hN : (numF y c).2 = true
      · obtain ⟨hT, n66, n67⟩ := numF_excl hN
        rw [if_pos hN] at hstep
        rw [hN] at hnum
        clear n66 n67 hN hT rprs rspc rtxt htxt
        generalize (numF y c).1 = nv at *
        go_wp2_with (first
          | ((with_reducible refine gate_dst (N := 15) rfl ?_); refine next_ev (N := 15) rfl rfl rfl rfl HS.out.bi HC.out ?_; intro W1 hbi hgr; have HS_ := Aside0.mk (HS.out.next hbi hgr); clear HS hbi hgr; have HS := HS_; clear HS_)
          | ((with_reducible refine gate_dst (N := 19) rfl ?_); refine load_ev (N := 19) rfl rfl rfl (cs := y.cs (.slice B ps.length m)) rfl HS.out.b3 Try.underlying45 rfl (by kernel_rfl) ?_))
        refine (hnum.out _).mono ?_
        rintro e W2 ⟨rfl, hb⟩
        replace HS := Aside0.mk (HS.out.below hb)
        clear hb
        go_upto_region 6 with fail
        have HD := Aside0.mk (HS.out.below (below_drew (Below.refl _ _)))
        clear HS
        have HS := HD
        clear HD
        refine start_ (n := 6) (S := fun w' => w'.heap[g3]? = some (.cells (y.cs (.slice B ps.length m)) 45 (0, 0))) (ds := [5]) #[false, false, false, false, false, false] (by kernel_rfl) rfl rfl HS.out.b3 (fun hHeld => ?_)
        refine pure_ (i := 1) (N := some 26) (v := ?_) (a' := ?_) #[false, true, false, false, false, false] rfl rfl (by kernel_rfl) (fun _ _ _ h => h) (Or.inl ⟨by rfl, ?_⟩) ?_ ?_
        rotate_left
        · intro w'
          go_simp
          with_reducible rfl
        rotate_left
        · simp only [Act.put, List.setIfInBounds_toArray, List.set_cons_zero, List.set_cons_succ]
          rfl
        refine pure_ (i := 2) (N := some 27) (v := ?_) (a' := ?_) #[false, true, true, false, false, false] rfl rfl (by kernel_rfl) (fun _ _ _ h => h) (Or.inl ⟨by rfl, ?_⟩) ?_ ?_
        rotate_left
        · intro w'
          go_simp
          with_reducible rfl
        rotate_left
        · simp only [Act.put, List.setIfInBounds_toArray, List.set_cons_zero, List.set_cons_succ]
          rfl
        refine take_ (i := 0) (N := some 25) (v := .agg (y.cs (.slice B ps.length m))) (a' := ?_) #[true, true, true, false, false, false] rfl rfl (by kernel_rfl) (fun _ _ _ h => h) (Or.inl ⟨by rfl, fun w' hw' => load_run rfl rfl hw' Try.underlying45 rfl (by kernel_rfl)⟩) hHeld ?_ ?_
        rotate_left
        · simp only [Act.put, List.setIfInBounds_toArray, List.set_cons_zero, List.set_cons_succ]
          rfl
        clear hHeld
        refine one_ (i := 3) (N := some 28) #[true, true, true, true, false, false] rfl rfl (by kernel_rfl) (by decide) (fun K hK => ?_)
        refine goes_ Try.func78 (by kernel_rfl) rfl #[.pointer (some ⟨gb, 0, none⟩)] (by rfl) rfl rfl (by simp only [List.map_toArray, List.map_cons, List.map_nil] <;> rfl) ?_
        refine (rnum.out _ HS.out.I HS.out.bl).mono ?_
        rintro e W3 ⟨rfl, hI, hb, hk⟩
        replace HS := Aside0.mk (HS.out.call (r' := ((rdNum r).2)) hI hb hk)
        clear hI hb hk
        refine ⟨_, rfl, hK.out _ _ HS.out.b3 (fun hHeld => ?_)⟩
        clear hK K hHeld
        refine norm_ (a' := ?_) ?_ ?_
        rotate_left
        · simp only [Act.put, List.setIfInBounds_toArray, List.set_cons_zero, List.set_cons_succ]
          rfl
        refine one_ (i := 4) (N := some 29) #[true, true, true, true, true, false] rfl rfl (by kernel_rfl) (by decide) (fun K hK => ?_)
        refine goes_ Try.func63 (by kernel_rfl) rfl #[.agg (y.cs (.slice B ps.length m)), .int .i32 c, .int .i64 (rdNum r).1] (by rfl) rfl rfl (by simp only [List.map_toArray, List.map_cons, List.map_nil] <;> rfl) ?_
        refine (withNumber_calls y B ps.length m c (rdNum r).1 _).mono ?_
        rintro e W4 ⟨rfl, hb⟩
        replace HS := Aside0.mk (HS.out.below hb)
        clear hb
        refine ⟨_, rfl, hK.out _ _ HS.out.b3 (fun hHeld => ?_)⟩
        clear hK K hHeld
        refine norm_ (a' := ?_) ?_ ?_
        rotate_left
        · simp only [Act.put, List.setIfInBounds_toArray, List.set_cons_zero, List.set_cons_succ]
          rfl
        refine last_ (i := 5) (N := none) #[true, true, true, true, true, true] rfl rfl (by kernel_rfl) (by decide) (fun K hK => ?_)
        refine skip_ (w1 := W4.setRow g3 ((setNum y c (rdNum r).1).cs (.slice B ps.length m))) (by rfl) rfl (store_run (p := 3) rfl rfl rfl HS.out.b3 (by kernel_rfl) rfl (by kernel_rfl)) ?_
        have hb3 := setRow_heap W4 g3 _ ((setNum y c (rdNum r).1).cs (.slice B ps.length m)) 45 (0, 0) HS.out.b3
        replace HS := Aside0.mk (HS.out.store hb3 (grown_setRow W4 g3 _))
        clear hb3
        generalize W4.setRow g3 ((setNum y c (rdNum r).1).cs (.slice B ps.length m)) = W5 at *
        refine hK.out _ _ ?_
        clear hK K
        refine done_ (by kernel_rfl) ?_
        go_wp2_with fail
        obtain ⟨hY2, hz2⟩ := hnext.out _ hstep.out.symm
        have HY2 := Aside0.mk hY2
        have HZ2 := Aside0.mk hz2
        clear hY2 hz2
        go_roundw
        case rel => exact ⟨pos + 1, _, _, _, _, hlt.out, HZ2, HS, HY2⟩
        case measure => rw [iterPos_of HS.out.bi, hip.out]; have := hlt.out; omega

      by_cases hT : (textF y c).2 = true
      · obtain ⟨hN', n66, n67⟩ := textF_excl hT
        rw [if_neg hN, if_pos hT] at hstep
        rw [hN'] at hnum
        rw [hT] at htxt
        clear n66 n67 hN hT hN' rprs rspc rnum
        generalize (numF y c).1 = nv at *
        generalize (textF y c).1 = tv at *
        go_wp2_with (first
          | ((with_reducible refine gate_dst (N := 15) rfl ?_); refine next_ev (N := 15) rfl rfl rfl rfl HS.out.bi HC.out ?_; intro W1 hbi hgr; have HS_ := Aside0.mk (HS.out.next hbi hgr); clear HS hbi hgr; have HS := HS_; clear HS_)
          | ((with_reducible refine gate_dst (N := 19) rfl ?_); refine load_ev (N := 19) rfl rfl rfl (cs := y.cs (.slice B ps.length m)) rfl HS.out.b3 Try.underlying45 rfl (by kernel_rfl) ?_))
        refine (hnum.out _).mono ?_
        rintro e W2 ⟨rfl, hb⟩
        replace HS := Aside0.mk (HS.out.below hb)
        clear hb
        go_wp2_with (first
          | ((with_reducible refine gate_dst (N := 31) rfl ?_); refine load_ev (N := 31) rfl rfl rfl (cs := y.cs (.slice B ps.length m)) rfl HS.out.b3 Try.underlying45 rfl (by kernel_rfl) ?_))
        refine (htxt.out _).mono ?_
        rintro e W2 ⟨rfl, hb⟩
        replace HS := Aside0.mk (HS.out.below hb)
        clear hb
        go_upto_region 9 with fail
        have HD := Aside0.mk (HS.out.below (below_drew (Below.refl _ _)))
        clear HS
        have HS := HD
        clear HD
        refine start_ (n := 6) (S := fun w' => w'.heap[g3]? = some (.cells (y.cs (.slice B ps.length m)) 45 (0, 0))) (ds := [5]) #[false, false, false, false, false, false] (by kernel_rfl) rfl rfl HS.out.b3 (fun hHeld => ?_)
        refine pure_ (i := 1) (N := some 38) (v := ?_) (a' := ?_) #[false, true, false, false, false, false] rfl rfl (by kernel_rfl) (fun _ _ _ h => h) (Or.inl ⟨by rfl, ?_⟩) ?_ ?_
        rotate_left
        · intro w'
          go_simp
          with_reducible rfl
        rotate_left
        · simp only [Act.put, List.setIfInBounds_toArray, List.set_cons_zero, List.set_cons_succ]
          rfl
        refine pure_ (i := 2) (N := some 39) (v := ?_) (a' := ?_) #[false, true, true, false, false, false] rfl rfl (by kernel_rfl) (fun _ _ _ h => h) (Or.inl ⟨by rfl, ?_⟩) ?_ ?_
        rotate_left
        · intro w'
          go_simp
          with_reducible rfl
        rotate_left
        · simp only [Act.put, List.setIfInBounds_toArray, List.set_cons_zero, List.set_cons_succ]
          rfl
        refine take_ (i := 0) (N := some 37) (v := .agg (y.cs (.slice B ps.length m))) (a' := ?_) #[true, true, true, false, false, false] rfl rfl (by kernel_rfl) (fun _ _ _ h => h) (Or.inl ⟨by rfl, fun w' hw' => load_run rfl rfl hw' Try.underlying45 rfl (by kernel_rfl)⟩) hHeld ?_ ?_
        rotate_left
        · simp only [Act.put, List.setIfInBounds_toArray, List.set_cons_zero, List.set_cons_succ]
          rfl
        clear hHeld
        refine one_ (i := 3) (N := some 40) #[true, true, true, true, false, false] rfl rfl (by kernel_rfl) (by decide) (fun K hK => ?_)
        refine goes_ Try.func79 (by kernel_rfl) rfl #[.pointer (some ⟨gb, 0, none⟩)] (by rfl) rfl rfl (by simp only [List.map_toArray, List.map_cons, List.map_nil] <;> rfl) ?_
        refine (rtxt.out _ HS.out.I HS.out.bl).mono ?_
        rintro e W3 ⟨rfl, hI, hb, hk⟩
        replace HS := Aside0.mk (HS.out.call (r' := ((rdText r).2)) hI hb hk)
        clear hI hb hk
        refine ⟨_, rfl, hK.out _ _ HS.out.b3 (fun hHeld => ?_)⟩
        clear hK K hHeld
        refine norm_ (a' := ?_) ?_ ?_
        rotate_left
        · simp only [Act.put, List.setIfInBounds_toArray, List.set_cons_zero, List.set_cons_succ]
          rfl
        refine one_ (i := 4) (N := some 41) #[true, true, true, true, true, false] rfl rfl (by kernel_rfl) (by decide) (fun K hK => ?_)
        refine goes_ Try.func65 (by kernel_rfl) rfl #[.agg (y.cs (.slice B ps.length m)), .int .i32 c, .string (rdText r).1] (by rfl) rfl rfl (by simp only [List.map_toArray, List.map_cons, List.map_nil] <;> rfl) ?_
        refine (withText_calls y B ps.length m c (rdText r).1 _).mono ?_
        rintro e W4 ⟨rfl, hb⟩
        replace HS := Aside0.mk (HS.out.below hb)
        clear hb
        refine ⟨_, rfl, hK.out _ _ HS.out.b3 (fun hHeld => ?_)⟩
        clear hK K hHeld
        refine norm_ (a' := ?_) ?_ ?_
        rotate_left
        · simp only [Act.put, List.setIfInBounds_toArray, List.set_cons_zero, List.set_cons_succ]
          rfl
        refine last_ (i := 5) (N := none) #[true, true, true, true, true, true] rfl rfl (by kernel_rfl) (by decide) (fun K hK => ?_)
        refine skip_ (w1 := W4.setRow g3 ((setText y c (rdText r).1).cs (.slice B ps.length m))) (by rfl) rfl (store_run (p := 3) rfl rfl rfl HS.out.b3 (by kernel_rfl) rfl (by kernel_rfl)) ?_
        have hb3 := setRow_heap W4 g3 _ ((setText y c (rdText r).1).cs (.slice B ps.length m)) 45 (0, 0) HS.out.b3
        replace HS := Aside0.mk (HS.out.store hb3 (grown_setRow W4 g3 _))
        clear hb3
        generalize W4.setRow g3 ((setText y c (rdText r).1).cs (.slice B ps.length m)) = W5 at *
        refine hK.out _ _ ?_
        clear hK K
        refine done_ (by kernel_rfl) ?_
        go_wp2_with fail
        obtain ⟨hY2, hz2⟩ := hnext.out _ hstep.out.symm
        have HY2 := Aside0.mk hY2
        have HZ2 := Aside0.mk hz2
        clear hY2 hz2
        go_roundw
        case rel => exact ⟨pos + 1, _, _, _, _, hlt.out, HZ2, HS, HY2⟩
        case measure => rw [iterPos_of HS.out.bi, hip.out]; have := hlt.out; omega

      have hN' : (numF y c).2 = false := by simpa using hN
      have hT' : (textF y c).2 = false := by simpa using hT
      rw [if_neg hN, if_neg hT] at hstep
      rw [hN'] at hnum
      rw [hT'] at htxt
      clear hN hT hN' hT' rnum rtxt
      generalize (numF y c).1 = nv at *
      generalize (textF y c).1 = tv at *
      by_cases h66 : c = 66
      · rw [if_pos h66] at hstep
        have e66 : (c == 66) = true := beq_iff_eq.mpr h66
        have e67 : (c == 67) = false := beq_eq_false_iff_ne.mpr (by omega)
        clear h66 rspc
        go_wp2_with (first
          | ((with_reducible refine gate_dst (N := 15) rfl ?_); refine next_ev (N := 15) rfl rfl rfl rfl HS.out.bi HC.out ?_; intro W1 hbi hgr; have HS_ := Aside0.mk (HS.out.next hbi hgr); clear HS hbi hgr; have HS := HS_; clear HS_)
          | ((with_reducible refine gate_dst (N := 19) rfl ?_); refine load_ev (N := 19) rfl rfl rfl (cs := y.cs (.slice B ps.length m)) rfl HS.out.b3 Try.underlying45 rfl (by kernel_rfl) ?_))
        refine (hnum.out _).mono ?_
        rintro e W2 ⟨rfl, hb⟩
        replace HS := Aside0.mk (HS.out.below hb)
        clear hb
        go_wp2_with (first
          | ((with_reducible refine gate_dst (N := 31) rfl ?_); refine load_ev (N := 31) rfl rfl rfl (cs := y.cs (.slice B ps.length m)) rfl HS.out.b3 Try.underlying45 rfl (by kernel_rfl) ?_))
        refine (htxt.out _).mono ?_
        rintro e W2 ⟨rfl, hb⟩
        replace HS := Aside0.mk (HS.out.below hb)
        clear hb
        go_wp2_with fail
        have hsz := Aside0.mk HS.out.kp.1
        refine (rprs.out _ HS.out.I HS.out.bl).mono ?_
        rintro e W3 ⟨v0, rfl, hr, hI, hb, hk⟩
        have HR := Aside0.mk (Kd.R_lower hr hsz.out)
        replace HS := Aside0.mk (HS.out.call (r' := ((rdPairs r).2)) hI hb hk)
        clear hI hb hk hr rprs hsz
        obtain ⟨B2, m2, hu⟩ := Kd.R_slice HR.out
        subst hu
        have d19 : W3.cell? ⟨g3, 19, none⟩ = some (.slice B ps.length m) := (blk_cell HS.out.b3 19).trans rfl
        have f19 := blk_frozen HS.out.b3 19
        go_wp2_with (first
          | ((with_reducible refine gate_store (t := 43) (p := 47) rfl ?_); refine fstore_ev rfl rfl rfl (j := 19) (u := .slice B2 (rdPairs r).1.length m2) HS.out.b3 ?hr ?_; (case hr => first | (go_simp; done) | (go_simp; rfl)); intro W4 hb3 hgr; have HS_ := Aside0.mk (HS.out.putPairs HR.out hb3 hgr); clear HS hb3 hgr d19 f19; have HS := HS_; clear HS_))
        obtain ⟨hY2, hz2⟩ := hnext.out _ hstep.out.symm
        have HY2 := Aside0.mk hY2
        have HZ2 := Aside0.mk hz2
        clear hY2 hz2
        go_roundw
        case rel => exact ⟨pos + 1, _, _, _, _, hlt.out, HZ2, HS, HY2⟩
        case measure => rw [iterPos_of HS.out.bi, hip.out]; have := hlt.out; omega

      rw [if_neg h66] at hstep
      have e66 : (c == 66) = false := beq_eq_false_iff_ne.mpr h66
      clear rprs
      by_cases h67 : c = 67
      · rw [if_pos h67] at hstep
        have e67 : (c == 67) = true := beq_iff_eq.mpr h67
        clear h66 h67
        go_wp2_with (first
          | ((with_reducible refine gate_dst (N := 15) rfl ?_); refine next_ev (N := 15) rfl rfl rfl rfl HS.out.bi HC.out ?_; intro W1 hbi hgr; have HS_ := Aside0.mk (HS.out.next hbi hgr); clear HS hbi hgr; have HS := HS_; clear HS_)
          | ((with_reducible refine gate_dst (N := 19) rfl ?_); refine load_ev (N := 19) rfl rfl rfl (cs := y.cs (.slice B ps.length m)) rfl HS.out.b3 Try.underlying45 rfl (by kernel_rfl) ?_))
        refine (hnum.out _).mono ?_
        rintro e W2 ⟨rfl, hb⟩
        replace HS := Aside0.mk (HS.out.below hb)
        clear hb
        go_wp2_with (first
          | ((with_reducible refine gate_dst (N := 31) rfl ?_); refine load_ev (N := 31) rfl rfl rfl (cs := y.cs (.slice B ps.length m)) rfl HS.out.b3 Try.underlying45 rfl (by kernel_rfl) ?_))
        refine (htxt.out _).mono ?_
        rintro e W2 ⟨rfl, hb⟩
        replace HS := Aside0.mk (HS.out.below hb)
        clear hb
        go_wp2_with fail
        refine (rspc.out _ HS.out.I HS.out.bl).mono ?_
        rintro e W3 ⟨rfl, hI, hb, hk⟩
        replace HS := Aside0.mk (HS.out.call (r' := ((rdSpec r).2)) hI hb hk)
        clear hI hb hk rspc
        have d7 : W3.cell? ⟨g3, 7, none⟩ = some (.string y.sn) := (blk_cell HS.out.b3 7).trans rfl
        have f7 := blk_frozen HS.out.b3 7
        have d8 : W3.cell? ⟨g3, 8, none⟩ = some (.int .i64 y.sp) := (blk_cell HS.out.b3 8).trans rfl
        have f8 := blk_frozen HS.out.b3 8
        have d9 : W3.cell? ⟨g3, 9, none⟩ = some (.int .i64 y.sa) := (blk_cell HS.out.b3 9).trans rfl
        have f9 := blk_frozen HS.out.b3 9
        have d10 : W3.cell? ⟨g3, 10, none⟩ = some (.int .i64 y.ss) := (blk_cell HS.out.b3 10).trans rfl
        have f10 := blk_frozen HS.out.b3 10
        have d11 : W3.cell? ⟨g3, 11, none⟩ = some (.bool y.sc) := (blk_cell HS.out.b3 11).trans rfl
        have f11 := blk_frozen HS.out.b3 11
        go_wp2_with fail
        obtain ⟨hb5, hg5⟩ := put5 HS.out.b3 (.string (rdSpec r).1.n) (.int .i64 (rdSpec r).1.p) (.int .i64 (rdSpec r).1.a) (.int .i64 (rdSpec r).1.z) (.bool (rdSpec r).1.c)
        have HS_ := Aside0.mk (HS.out.store (y' := {y with sn := (rdSpec r).1.n, sp := (rdSpec r).1.p, sa := (rdSpec r).1.a, ss := (rdSpec r).1.z, sc := (rdSpec r).1.c}) hb5 hg5)
        clear HS
        have HS := HS_
        clear HS_ hb5 hg5 d7 f7 d8 f8 d9 f9 d10 f10 d11 f11
        obtain ⟨hY2, hz2⟩ := hnext.out _ hstep.out.symm
        have HY2 := Aside0.mk hY2
        have HZ2 := Aside0.mk hz2
        clear hY2 hz2
        go_roundw
        case rel => exact ⟨pos + 1, _, _, _, _, hlt.out, HZ2, HS, HY2⟩
        case measure => rw [iterPos_of HS.out.bi, hip.out]; have := hlt.out; omega

      rw [if_neg h67] at hstep
      have e67 : (c == 67) = false := beq_eq_false_iff_ne.mpr h67
      clear h66 h67 rspc
      go_wp2_with (first
        | ((with_reducible refine gate_dst (N := 15) rfl ?_); refine next_ev (N := 15) rfl rfl rfl rfl HS.out.bi HC.out ?_; intro W1 hbi hgr; have HS_ := Aside0.mk (HS.out.next hbi hgr); clear HS hbi hgr; have HS := HS_; clear HS_)
        | ((with_reducible refine gate_dst (N := 19) rfl ?_); refine load_ev (N := 19) rfl rfl rfl (cs := y.cs (.slice B ps.length m)) rfl HS.out.b3 Try.underlying45 rfl (by kernel_rfl) ?_))
      refine (hnum.out _).mono ?_
      rintro e W2 ⟨rfl, hb⟩
      replace HS := Aside0.mk (HS.out.below hb)
      clear hb
      go_wp2_with (first
        | ((with_reducible refine gate_dst (N := 31) rfl ?_); refine load_ev (N := 31) rfl rfl rfl (cs := y.cs (.slice B ps.length m)) rfl HS.out.b3 Try.underlying45 rfl (by kernel_rfl) ?_))
      refine (htxt.out _).mono ?_
      rintro e W2 ⟨rfl, hb⟩
      replace HS := Aside0.mk (HS.out.below hb)
      clear hb
      go_wp2_with fail
      obtain ⟨hY2, hz2⟩ := hnext.out _ hstep.out.symm
      have HY2 := Aside0.mk hY2
      have HZ2 := Aside0.mk hz2
      clear hY2 hz2
      go_roundw
      case rel => exact ⟨pos + 1, _, _, _, _, hlt.out, HZ2, HS, HY2⟩
      case measure => rw [iterPos_of HS.out.bi, hip.out]; have := hlt.out; omega

    · have hpos : Aside0 ((lets s).take pos = lets s) := ⟨lets_all s pos hlt0⟩
      have hend := fun ty => Lib.run_next_end_at (P := Try.prog) wr gi s pos ty HS.out.bi hlt0
      rw [hpos.out] at HY
      clear hpos hlt0 hle
      obtain ⟨B, m, hyu⟩ := Kd.R_slice HS.out.rp
      subst hyu
      go_wp2_with (first
        | ((with_reducible refine gate_dst (N := 53) rfl ?_); refine load_ev (N := 53) rfl rfl rfl (cs := y.cs (.slice B ps.length m)) rfl HS.out.b3 Try.underlying45 rfl (by kernel_rfl) ?_)
        | ((with_reducible refine gate_store (t := 45) (p := 4) rfl ?_); refine Aside0.out ?_))
      constructor
      refine store_ev rfl rfl rfl (cells := y.cs (.slice B ps.length m)) rfl rfl HS.out.b4 (by kernel_rfl) rfl (by kernel_rfl) ?_
      intro W1 hb4 hgr
      have HR := Aside0.mk (pairs_grown HS.out.rp hgr (fun cells e => by rw [HS.out.b4] at e; simp at e))
      have HL := Aside0.mk (HS.out.grownL hgr HS.out.l4)
      have HI := Aside0.mk (HS.out.grownI hgr HS.out.l4)
      have HK := Aside0.mk (keep_grown HS.out.kp hgr HS.out.l4)
      have HB := Aside0.mk hb4
      clear hb4 hgr HS hend
      go_wp2_with fail
      rw [Exit.noGoto_ret]
      refine bodyPost_ret (results_cell_row rfl _ _ g4 45 (y.cs (.slice B ps.length m)) (0, 0) _ rfl HB.out Try.underlying45 rfl (by kernel_rfl)) rfl ?_
      rw [← HY.out]
      exact ⟨_, rfl, HR.out, HI.out, HL.out, HK.out⟩
end Go.Proofs.Ytlgihjhlkpmpnaa.Wire
