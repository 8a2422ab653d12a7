import Derived.Test.YtlgihjhlkpmpnaaZWireV
namespace Go.Proofs.Ytlgihjhlkpmpnaa.Wire
set_option linter.unusedVariables false
set_option linter.unusedSimpArgs false
open Go.RowKit Go.Proofs.YtlgihjhlkpmpnaaW.PrintWords Go.Proofs.YtlgihjhlkpmpnaaW.PrintLast Go.Proofs.YtlgihjhlkpmpnaaW.PrintMore Go.Proofs.Ytlgihjhlkpmpnaa.Hand Go.Proofs.Ytlgihjhlkpmpnaa.PWire Go.Proofs.Ytlgihjhlkpmpnaa.PureNums
/-- the first cells of a greater variable, as a struct -/
theorem run_loadVar_pre {P : Program} (w : World) (g : Nat) (t ty : TypeId) (cs ex : Array Value) (fr : Nat × Nat) (d : TypeDesc) (hg : w.heap[g]? = some (.cells (cs ++ ex) t fr))
    (hu : P.underlying ty = some d) (hd : (match d with | .struct _ | .array _ _ => true | _ => false) = true) (hi : (P.info? ty).map (·.size) = some cs.size) :
    (loadVar ty ⟨g, 0, none⟩).run P w = .ok (.agg cs) w := by
  have hl : (loadCells ⟨g, 0, none⟩ cs.toList.length).run P w = .ok cs.toList.toArray w :=
    run_loadCells_list (P := P) w ⟨g, 0, none⟩ cs.toList (fun j v hv => by
      have hadd : (⟨g, 0, none⟩ : Addr).add j = ⟨g, j, none⟩ := by unfold Addr.add; split <;> simp_all
      rw [hadd, cell_of_row w g j (cs ++ ex) t fr hg]
      have hj : j < cs.size := by
        have := List.getElem?_eq_some_iff.1 hv
        obtain ⟨q, _⟩ := this
        simpa using q
      rw [Array.getElem?_append_left hj]
      simpa using hv)
  cases hq : P.info? ty with
  | none => simp [hq] at hi
  | some i =>
    have hs : i.size = cs.size := by simpa [hq] using hi
    have hagg : (isAgg ty).run P w = .ok true w := by
      unfold isAgg
      rw [Sem.run_bind, run_underlying hu w]
      cases d <;> simp_all
    simp only [Array.length_toList, Array.toArray_toList] at hl
    simp [loadVar, Sem.run_bind, hagg, sizeOf, typeInfo, hq, hs, hl]
theorem load_evp {P : Program} {ops : Array Oper} {rest : List Oper} {o : Oper} {a : Act} {Q : Exit → Act → World → Prop} {W : World} {N : Tmp} (hN : o.dst = some N) {ty : TypeId} {p : Tmp} (ho : o.op = .load ty (.tmp p)) {g : Nat} {t : TypeId} {cs ex : Array Value} (hx : a.eval (.tmp p) = .pointer (some ⟨g, 0, none⟩)) {d : TypeDesc} (hg : W.heap[g]? = some (.cells (cs ++ ex) t (0, 0)))
    (hu : P.underlying ty = some d) (hd : (match d with | .struct _ | .array _ _ => true | _ => false) = true) (hi : (P.info? ty).map (·.size) = some cs.size) (hw : Region.wanted o (yielded ops a.tmps) = true)
    (h : wpList P ops Q rest (a.put o.dst (.agg cs)) W) : wpList P ops Q (o :: rest) a W := by
  unfold wpList
  rw [if_pos hw]
  left
  unfold Oper.wp
  have hr : (execOp a.eval o).run P W = .ok (.value (.agg cs)) W := by
    unfold execOp
    simp only [ho, hx, Instr.loadAt, Instr.sureAddr, Sem.run_bind, Sem.run_pure, Result.andThen_ok, run_loadVar_pre W g t ty cs ex (0, 0) d hg hu hd hi]
  rw [hr]
  exact h
set_option maxHeartbeats 32000000 in
set_option maxRecDepth 100000 in
theorem decodes_calls (s : ByteArray) (w : World) : Calls Try.prog 6 #[.string s] w fun e w' => e = .returned (.bool true) ∧ Below w.heap.size w w' := by
  have hlist := Aside0.mk (fun W : World => list_calls W)
  by_cases hz : 1200 < s.size
  case pos =>
    have hz1 : (1200 : Int) < (s.size : Int) := by omega
    go_enter Try.func6, Try.ntmps6
    go_wp2_with fail
    refine (hlist.out _).mono ?_
    rintro e w2 ⟨rfl, hb⟩
    have L := Aside0.mk hb
    clear hb
    go_wp2_with fail
    exact bodyPost_ret (results_tmp rfl _ _ _) rfl ⟨rfl, L.out⟩
  have hz1 : ¬ (1200 : Int) < (s.size : Int) := by omega
  have hdec := Aside0.mk (fun W : World => decode_calls s W (by omega))
  have hq := Aside0.mk (fun W : World => qdecode_calls s W (by omega))
  have hpk := Aside0.mk (fun W : World => peek_calls s W)
  have hqp := Aside0.mk (fun W : World => qpeek_calls s W)
  have hc := dec_cases s
  simp only [← decWQ, gotV] at hq
  generalize decW s = d at *
  generalize peekI s = pk at *
  obtain ⟨er, n, y, ps⟩ := d
  simp only at hdec hq hc
  have hcl : ps.length ≤ 17 := by
    rcases hc with ⟨_, _, _, h⟩ | ⟨_, _, _, _, _, h, _⟩
    · rw [h]; exact Nat.zero_le _
    · exact h
  have Hc := Aside0.mk hc
  have hsame := Aside0.mk (fun (W : World) (B B2 : Option Addr) (m m2 : Nat) (h1 : Kd.R k102 102 W w.heap.size (fun _ => True) (.slice B ps.length m) ps) (h2 : Kd.R k102 102 W w.heap.size (fun _ => True) (.slice B2 ps.length m2) ps) => same_calls y B B2 m m2 ps W (Kd.R_reads' h1).2.2 (Kd.R_reads' h2).2.2)
  have henc := Aside0.mk (fun (W : World) (B : Option Addr) (m : Nat) (h1 : Kd.R k102 102 W w.heap.size (fun _ => True) (.slice B ps.length m) ps) => encode_calls y B m ps W (prs_of_R h1 (by omega)).1 (prs_of_R h1 (by omega)).2)
  clear hc hcl hz
  go_enter Try.func6, Try.ntmps6
  go_wp2_with fail

  refine (hdec.out _).mono ?_
  rintro e w2 ⟨u, rfl, hr, hb⟩
  obtain ⟨B, m, hu⟩ := Kd.R_slice hr
  subst hu
  have R := Aside0.mk hr
  have L := Aside0.mk hb
  clear hr hb hdec

  go_wp2_with (first
    | ((with_reducible refine gate_dst (N := 3) rfl ?_); refine box_event rfl (N := 3) rfl (cs := #[.int .i64 0, .int .i64 0, .int .i64 0, .string ⟨#[]⟩, .int .i64 0, .string ⟨#[]⟩, .int .i64 0, .string ⟨#[]⟩, .int .i64 0, .int .i64 0, .int .i64 0, .bool false, .string ⟨#[]⟩, .string ⟨#[]⟩, .int .i64 0, .int .i64 0, .int .i64 0, .int .i64 0, .int .i64 0, .slice none 0 0]) (t := 45) ?hr ?_; (case hr => first | (go_simp; done) | (go_simp; rfl)); intro g3 hg3 w3 hbx hbl; have L0 := L; have n_L := Aside0.mk (below_step L.out hbl); have n_R := Aside0.mk (Kd.R_below R.out hbl); clear L R; have L := n_L; have R := n_R; clear n_L n_R; have X := Aside0.mk hbx; have G3 := Aside0.mk (show w.heap.size ≤ g3 by rw [hg3]; exact Nat.le_trans L0.out.size (Nat.le_refl _)); clear hbx hbl hg3 L0)
    | ((with_reducible refine gate_store (t := 45) (p := 3) rfl ?_); refine store_ev rfl rfl rfl (cells := #[.int .i64 y.id, .int .i64 y.kind, .int .i64 y.label, .string y.pt, .int .i64 y.pp, .string y.tt, .int .i64 y.tp, .string y.sn, .int .i64 y.sp, .int .i64 y.sa, .int .i64 y.ss, .bool y.sc, .string y.grp, .string y.mem, .int .i64 y.gen, .int .i64 y.off, .int .i64 y.most, .int .i64 y.prod, .int .i64 y.seq, .slice B ps.length m]) rfl rfl X.out (by kernel_rfl) rfl (by kernel_rfl) ?_; intro w4 hbx hgr; have n_L := Aside0.mk (below_put L.out G3.out hgr L.out.size); have n_R := Aside0.mk (pairs_grown R.out hgr (fun cells e => by rw [X.out] at e; simp at e)); have n_X := Aside0.mk hbx; clear L R X hbx hgr G3; have X := n_X; clear n_X; have L := n_L; have R := n_R; clear n_L n_R))

  refine (hq.out _).mono ?_
  rintro e w5 ⟨u, rfl, hr, hb⟩
  obtain ⟨B2, m2, hu⟩ := Kd.R_slice hr
  subst hu
  have S := Aside0.mk (Kd.R_lower hr L.out.size)
  have n_X := Aside0.mk (blk_below X.out hb)
  have n_R := Aside0.mk (Kd.R_below R.out hb)
  have n_L := Aside0.mk (below_step L.out hb)
  clear X R L hb hr hq
  have X := n_X
  have R := n_R
  have L := n_L
  clear n_X n_R n_L

  go_wp2_with (first
    | ((with_reducible refine gate_dst (N := 6) rfl ?_); refine box_event rfl (N := 6) rfl (cs := #[.int .i64 0, .int .i64 0, .int .i64 0, .string ⟨#[]⟩, .int .i64 0, .string ⟨#[]⟩, .int .i64 0, .string ⟨#[]⟩, .int .i64 0, .int .i64 0, .int .i64 0, .bool false, .string ⟨#[]⟩, .string ⟨#[]⟩, .int .i64 0, .int .i64 0, .int .i64 0, .int .i64 0, .int .i64 0, .slice none 0 0, .int .i64 0, .int .i64 0]) (t := 54) ?hr ?_; (case hr => first | (go_simp; done) | (go_simp; rfl)); intro g6 hg6 w6 hbx hbl; have L0 := L; have D := Aside0.mk (show g3 ≠ g6 by rw [hg6]; exact Nat.ne_of_lt (blk_lt X.out)); have n_X := Aside0.mk (blk_below X.out hbl); have n_R := Aside0.mk (Kd.R_below R.out hbl); have n_S := Aside0.mk (Kd.R_below S.out hbl); have n_L := Aside0.mk (below_step L.out hbl); clear X R S L; have X := n_X; have R := n_R; have S := n_S; have L := n_L; clear n_X n_R n_S n_L; have Y := Aside0.mk hbx; have G6 := Aside0.mk (show w.heap.size ≤ g6 by rw [hg6]; exact L0.out.size); clear hbx hbl hg6 L0)
    | ((with_reducible refine gate_store (t := 54) (p := 6) rfl ?_); refine store_ev rfl rfl rfl (cells := #[.int .i64 y.id, .int .i64 y.kind, .int .i64 y.label, .string y.pt, .int .i64 y.pp, .string y.tt, .int .i64 y.tp, .string y.sn, .int .i64 y.sp, .int .i64 y.sa, .int .i64 y.ss, .bool y.sc, .string y.grp, .string y.mem, .int .i64 y.gen, .int .i64 y.off, .int .i64 y.most, .int .i64 y.prod, .int .i64 y.seq, .slice B2 ps.length m2, .int .i64 n, .int .i64 er]) rfl rfl Y.out (by kernel_rfl) rfl (by kernel_rfl) ?_; intro w7 hbx hgr; have n_Y := Aside0.mk hbx; have n_X := Aside0.mk (grown_at hgr X.out D.out); have n_L := Aside0.mk (below_put L.out G6.out hgr L.out.size); have n_R := Aside0.mk (pairs_grown R.out hgr (fun cells e => by rw [Y.out] at e; simp at e)); have n_S := Aside0.mk (pairs_grown S.out hgr (fun cells e => by rw [Y.out] at e; simp at e)); clear X L R S Y hbx hgr G6 D; have X := n_X; have L := n_L; have R := n_R; have S := n_S; clear n_X n_L n_R n_S; have Y := n_Y; clear n_Y; have c20 := (blk_cell Y.out 20).trans rfl; have c21 := (blk_cell Y.out 21).trans rfl)
    | ((with_reducible refine gate_dst (N := 32) rfl ?_); refine load_evg (N := 32) rfl rfl (cs := #[.int .i64 y.id, .int .i64 y.kind, .int .i64 y.label, .string y.pt, .int .i64 y.pp, .string y.tt, .int .i64 y.tp, .string y.sn, .int .i64 y.sp, .int .i64 y.sa, .int .i64 y.ss, .bool y.sc, .string y.grp, .string y.mem, .int .i64 y.gen, .int .i64 y.off, .int .i64 y.most, .int .i64 y.prod, .int .i64 y.seq, .slice B ps.length m]) rfl X.out Try.underlying45 rfl (by kernel_rfl) ?hw ?_; (case hw => first | rfl | go_simp))
    | ((with_reducible refine gate_dst (N := 34) rfl ?_); refine load_evp (N := 34) rfl rfl (cs := #[.int .i64 y.id, .int .i64 y.kind, .int .i64 y.label, .string y.pt, .int .i64 y.pp, .string y.tt, .int .i64 y.tp, .string y.sn, .int .i64 y.sp, .int .i64 y.sa, .int .i64 y.ss, .bool y.sc, .string y.grp, .string y.mem, .int .i64 y.gen, .int .i64 y.off, .int .i64 y.most, .int .i64 y.prod, .int .i64 y.seq, .slice B2 ps.length m2]) (ex := #[.int .i64 n, .int .i64 er]) rfl Y.out Try.underlying45 rfl (by kernel_rfl) ?hw ?_; (case hw => first | rfl | go_simp)))

  refine (hsame.out _ B B2 m m2 R.out S.out).mono ?_
  rintro e w8 ⟨rfl, hb⟩
  have n_X := Aside0.mk (blk_below X.out hb)
  have n_R := Aside0.mk (Kd.R_below R.out hb)
  have n_L := Aside0.mk (below_step L.out hb)
  clear X R L hb hsame S Y c20 c21
  have X := n_X
  have R := n_R
  have L := n_L
  clear n_X n_R n_L

  go_wp2_with fail

  refine (hpk.out _).mono ?_
  rintro e w9 ⟨rfl, hb⟩
  have n_X := Aside0.mk (blk_below X.out hb)
  have n_R := Aside0.mk (Kd.R_below R.out hb)
  have n_L := Aside0.mk (below_step L.out hb)
  clear X R L hb hpk
  have X := n_X
  have R := n_R
  have L := n_L
  clear n_X n_R n_L

  go_wp2_with fail

  refine (hqp.out _).mono ?_
  rintro e w10 ⟨rfl, hb⟩
  have n_X := Aside0.mk (blk_below X.out hb)
  have n_R := Aside0.mk (Kd.R_below R.out hb)
  have n_L := Aside0.mk (below_step L.out hb)
  clear X R L hb hqp
  have X := n_X
  have R := n_R
  have L := n_L
  clear n_X n_R n_L

  rcases Hc.out with ⟨he, _⟩ | ⟨he, hn, h5, h6, h7, h8, h9, h10⟩
  · have he0 : (er == 0) = false := beq_eq_false_iff_ne.mpr (by omega)
    have he1 : ¬ er = 0 := by omega
    clear Hc he R X
    go_wp2_with fail
    refine (hlist.out _).mono ?_
    rintro e w11 ⟨rfl, hb⟩
    have L1 := Aside0.mk (below_step L.out hb)
    clear hb
    go_wp2_with fail
    exact bodyPost_ret (results_tmp rfl _ _ _) rfl ⟨rfl, L1.out⟩
  subst he
  obtain ⟨k, rfl⟩ : ∃ k : Nat, n = k := ⟨n.toNat, by omega⟩
  have hk1 : (k : Int) ≤ (s.size : Int) := h7
  have hE := henc.out
  simp only [h10, Int.toNat_natCast] at hE
  have hE2 := Aside0.mk hE
  clear hE henc Hc hn h5 h6 h8 h9 h10
  go_wp2_with (first
    | ((with_reducible refine gate_dst (N := 49) rfl ?_); refine load_ev (N := 49) rfl rfl rfl (cs := #[.int .i64 y.id, .int .i64 y.kind, .int .i64 y.label, .string y.pt, .int .i64 y.pp, .string y.tt, .int .i64 y.tp, .string y.sn, .int .i64 y.sp, .int .i64 y.sa, .int .i64 y.ss, .bool y.sc, .string y.grp, .string y.mem, .int .i64 y.gen, .int .i64 y.off, .int .i64 y.most, .int .i64 y.prod, .int .i64 y.seq, .slice B ps.length m]) rfl X.out Try.underlying45 rfl (by kernel_rfl) ?_))

  refine (hE2.out _ _ _ R.out).mono ?_
  rintro e w11 ⟨rfl, hb⟩
  have n_L := Aside0.mk (below_step L.out hb)
  clear L hb hE2 X R
  have L := n_L
  clear n_L

  go_wp2_with fail

  refine (hlist.out _).mono ?_
  rintro e w12 ⟨rfl, hb⟩
  have n_L := Aside0.mk (below_step L.out hb)
  clear L hb hlist
  have L := n_L
  clear n_L

  go_wp2_with fail

  exact bodyPost_ret (results_tmp rfl _ _ _) rfl ⟨rfl, L.out⟩
end Go.Proofs.Ytlgihjhlkpmpnaa.Wire
