import Derived.Test.YtlgihjhlkpmpnaaQWireC
-- halved
namespace Go.Proofs.Ytlgihjhlkpmpnaa.Wire
set_option linter.unusedVariables false
set_option linter.unusedSimpArgs false
open Go.RowKit Go.Proofs.YtlgihjhlkpmpnaaW.PrintWords Go.Proofs.YtlgihjhlkpmpnaaW.PrintLast Go.Proofs.YtlgihjhlkpmpnaaW.PrintMore Go.Proofs.Ytlgihjhlkpmpnaa.PWire

/-- two blocks, and new ones, have turned -/
structure Grown2 (W W' : World) (g h : Nat) : Prop where
 os : W'.os = W.os
 tape : W'.tape = W.tape
 output : W'.output = W.output
 size : W.heap.size ≤ W'.heap.size
 block : ∀ i, i < W.heap.size → i ≠ g → i ≠ h → W'.heap[i]? = W.heap[i]?
theorem Grown2.of {W W1 W' : World} {g h : Nat} (h1 : W.grownBy W1 (some g)) (h2 : W1.grownBy W' (some h)) : Grown2 W W' g h :=
 ⟨h2.os.trans h1.os, h2.tape.trans h1.tape, h2.output.trans h1.output, Nat.le_trans h1.size h2.size, fun i hi hg hh => (h2.block i (Nat.lt_of_lt_of_le hi h1.size) (fun e => hh (Option.some.inj e))).trans (h1.block i hi (fun e => hg (Option.some.inj e)))⟩
theorem Grown2.below {B : Nat} {w W W' : World} {g h : Nat} (h1 : Grown2 W W' g h) (hb : Below B w W) (hg : B ≤ g) (hh : B ≤ h) (hB : B ≤ W.heap.size) : Below B w W' :=
 ⟨h1.os.trans hb.os, h1.tape.trans hb.tape, h1.output.trans hb.output, Nat.le_trans hb.size h1.size, fun i hi => (h1.block i (Nat.lt_of_lt_of_le hi hB) (by omega) (by omega)).trans (hb.block i hi)⟩
theorem Grown2.undrew {W W' : World} {g h : Nat} (h1 : Grown2 W.drew W' g h) : Grown2 W W' g h := ⟨h1.os, h1.tape, h1.output, h1.size, h1.block⟩
theorem Grown2.pairs {w W W' : World} {g h : Nat} {u : Value} {ps : List S102} {cs cs' : Array Value} {t t' : TypeId} (h1 : Grown2 W W' g h) (hr : Kd.R k102 102 W w.heap.size (fun _ => True) u ps) (hg : W.heap[g]? = some (.cells cs t (0, 0))) (ht : t ≠ 102) (hh : W.heap[h]? = some (.cells cs' t' (0, 0))) (ht' : t' ≠ 102) : Kd.R k102 102 W' w.heap.size (fun _ => True) u ps :=
 Kd.R_mono (Kd.R_move (Kd.R_bound hr) (fun k hk => by
  obtain ⟨q, hq, cells, hc⟩ := hk.2.2.2
  have hE : k102.E = [] := rfl
  rw [hE, List.mem_singleton] at hq
  subst hq
  refine h1.block k hk.2.2.1 (fun e => ?_) (fun e => ?_)
  ·rw [e, hg] at hc; injection hc with hc; injection hc with _ hc; exact ht hc
  ·rw [e, hh] at hc; injection hc with hc; injection hc with _ hc; exact ht' hc)) (fun _ _ => trivial)
theorem load_run' {P : Program} {o : Oper} {a : Act} {W : World} {ty : TypeId} {p : Tmp} (ho : o.op = .load ty (.tmp p)) {g : Nat} (hx : a.eval (.tmp p) = .pointer (some ⟨g, 0, none⟩)) {t : TypeId} {cs : Array Value} {d : TypeDesc} (hg : W.heap[g]? = some (.cells cs t (0, 0)))
  (hu : P.underlying ty = some d) (hd : (match d with | .struct _ | .array _ _ => true | _ => false) = true) (hi : (P.info? ty).map (·.size) = some cs.size) : (execOp a.eval o).run P W = .ok (.value (.agg cs)) W := by
 unfold execOp
 simp only [ho, hx, Instr.loadAt, Instr.sureAddr, Sem.run_bind, Sem.run_pure, Result.andThen_ok, run_loadVar_row W g t ty cs (0, 0) d hg hu hd hi]
theorem store_run' {P : Program} {o : Oper} {a : Act} {W : World} {ty : TypeId} {p : Tmp} {q : Operand} (ho : o.op = .store ty (.tmp p) q) {g : Nat} {cells : Array Value} (hx : a.eval (.tmp p) = .pointer (some ⟨g, 0, none⟩)) (hy : a.eval q = .agg cells)
  {t : TypeId} {old : Array Value} (hg : W.heap[g]? = some (.cells old t (0, 0))) (hi : (P.info? ty).map (·.size) = some cells.size) (hold : old.size = cells.size) (h1 : cells.all (·.oneCell') = true) : (execOp a.eval o).run P W = .ok .skip (W.setRow g cells) := by
 unfold execOp
 simp only [ho, hx, hy, Instr.storeAt, Instr.sureAddr, Sem.run_bind, Sem.run_pure, Result.andThen_ok, run_storeVar_row W g t ty old cells hg hi hold h1]
theorem wanted_none {o : Oper} {ys : Nat → Option Bool} (h : o.guard = none) : Region.wanted o ys = true := by simp [Region.wanted, h]
/-- 'return x, y': two structs are loaded and stored, in whatever order -/
theorem ret_pair {P : Program} {ops : Array Oper} {Q : Exit → Act → World → Prop} {a : Act} {W : World} {id : Nat} (o0 o1 o2 o3 : Oper) (hm : P.follows .mixedOrders = true) (hn : ops.size = 4)
  (h0 : ops[0]? = some o0) (h1 : ops[1]? = some o1) (h2 : ops[2]? = some o2) (h3 : ops[3]? = some o3)
  (hc : (takeB .any ops [] #[false, false, false, false] #[true, false, false, false] 0 && (takeB .any ops [] #[true, false, false, false] #[true, true, false, false] 1 && (readyB .any ops #[true, true, false, false] #[true, true, true, false] 2 && (readyB .any ops #[true, true, true, false] #[true, true, true, true] 3 && Region.ready .any ops #[true, true, true, true] == [])))) = true)
  (hQ : ∀ c (a : Act) (d : Tmp) (v : Value) (w : World), Q (.panic c) (a.put (some d) v) w → Q (.panic c) a w)
  {d0 d1 p0 p1 p2 p3 : Tmp} {T1 T2 : TypeId} (ho0 : o0.op = .load T1 (.tmp p0)) (hd0 : o0.dst = some d0) (hg0 : o0.guard = none) (ho1 : o1.op = .load T2 (.tmp p1)) (hd1 : o1.dst = some d1) (hg1 : o1.guard = none)
  (ho2 : o2.op = .store T1 (.tmp p2) (.tmp d0)) (hd2 : o2.dst = none) (hg2 : o2.guard = none) (ho3 : o3.op = .store T2 (.tmp p3) (.tmp d1)) (hd3 : o3.dst = none) (hg3 : o3.guard = none)
  {g0 g1 g2 g3 : Nat} {cs cs' old old' : Array Value} {t0 t1 t2 t3 : TypeId} {e0 e1 : TypeDesc}
  (b0 : W.heap[g0]? = some (.cells cs t0 (0, 0))) (b1 : W.heap[g1]? = some (.cells cs' t1 (0, 0))) (b2 : W.heap[g2]? = some (.cells old t2 (0, 0))) (b3 : W.heap[g3]? = some (.cells old' t3 (0, 0)))
  (hu0 : P.underlying T1 = some e0) (hk0 : (match e0 with | .struct _ | .array _ _ => true | _ => false) = true) (hi0 : (P.info? T1).map (·.size) = some cs.size)
  (hu1 : P.underlying T2 = some e1) (hk1 : (match e1 with | .struct _ | .array _ _ => true | _ => false) = true) (hi1 : (P.info? T2).map (·.size) = some cs'.size)
  (hs : old.size = cs.size) (hs' : old'.size = cs'.size) (hc0 : cs.all (·.oneCell') = true) (hc1 : cs'.all (·.oneCell') = true)
  (v0 : a.eval (.tmp p0) = .pointer (some ⟨g0, 0, none⟩)) (v1 : (a.put (some d0) (.agg cs)).eval (.tmp p1) = .pointer (some ⟨g1, 0, none⟩))
  (v2 : ((a.put (some d0) (.agg cs)).put (some d1) (.agg cs')).eval (.tmp p2) = .pointer (some ⟨g2, 0, none⟩)) (v2' : ((a.put (some d0) (.agg cs)).put (some d1) (.agg cs')).eval (.tmp d0) = .agg cs)
  (v3 : ((a.put (some d0) (.agg cs)).put (some d1) (.agg cs')).eval (.tmp p3) = .pointer (some ⟨g3, 0, none⟩)) (v3' : ((a.put (some d0) (.agg cs)).put (some d1) (.agg cs')).eval (.tmp d1) = .agg cs')
  (n02 : g0 ≠ g2) (n03 : g0 ≠ g3) (n12 : g1 ≠ g2) (n13 : g1 ≠ g3) (n23 : g2 ≠ g3)
  (h : ∀ W', W'.heap[g2]? = some (.cells cs t2 (0, 0)) → W'.heap[g3]? = some (.cells cs' t3 (0, 0)) → Grown2 W W' g2 g3 → Q .normal ((a.put (some d0) (.agg cs)).put (some d1) (.agg cs')) W') :
  (Code.region id ops true).wp P Q a W := by
 simp only [Bool.and_eq_true] at hc
 obtain ⟨c0, c1, c2, c5, c7⟩ := hc
 refine start_ (n := 4) (S := fun w' => w'.heap[g0]? = some (.cells cs t0 (0, 0)) ∧ w'.heap[g1]? = some (.cells cs' t1 (0, 0))) (ds := []) #[false, false, false, false] hm hn rfl ⟨b0, b1⟩ (fun hHeld => ?_)
 refine take_ (i := 0) (N := some d0) (v := .agg cs) (a' := a.put (some d0) (.agg cs)) _ h0 hd0 c0 (fun c a w => by rw [hd0]; exact hQ c a _ _ w) (Or.inl ⟨wanted_none hg0, fun w' hw' => load_run' ho0 v0 hw'.1 hu0 hk0 hi0⟩) hHeld rfl ?_
 refine take_ (i := 1) (N := some d1) (v := .agg cs') (a' := (a.put (some d0) (.agg cs)).put (some d1) (.agg cs')) _ h1 hd1 c1 (fun c a w => by rw [hd1]; exact hQ c a _ _ w) (Or.inl ⟨wanted_none hg1, fun w' hw' => load_run' ho1 v1 hw'.2 hu1 hk1 hi1⟩) hHeld rfl ?_
 generalize (a.put (some d0) (.agg cs)).put (some d1) (.agg cs') = A at *
 have bb2 : W.drew.heap[g2]? = some (.cells old t2 (0, 0)) := b2
 have bb3 : W.drew.heap[g3]? = some (.cells old' t3 (0, 0)) := b3
 replace h : ∀ W', W'.heap[g2]? = some (.cells cs t2 (0, 0)) → W'.heap[g3]? = some (.cells cs' t3 (0, 0)) → Grown2 W.drew W' g2 g3 → Q .normal A W' := fun W' a b c => h W' a b c.undrew
 generalize W.drew = V at *
 have keep : ∀ (U : World) (g : Nat) (c : Array Value), (g0 ≠ g ∧ g1 ≠ g) → (U.heap[g0]? = some (.cells cs t0 (0, 0)) ∧ U.heap[g1]? = some (.cells cs' t1 (0, 0))) → ((U.setRow g c).heap[g0]? = some (.cells cs t0 (0, 0)) ∧ (U.setRow g c).heap[g1]? = some (.cells cs' t1 (0, 0))) := fun U g c hn hh =>
  ⟨(setRow_other U g g0 c hn.1).trans hh.1, (setRow_other U g g1 c hn.2).trans hh.2⟩
 have r2 := store_run' (P := P) (W := V) ho2 v2 v2' bb2 hi0 hs hc0
 have r3 := store_run' (P := P) (W := V) ho3 v3 v3' bb3 hi1 hs' hc1
 have x3 : (V.setRow g2 cs).heap[g3]? = some (.cells old' t3 (0, 0)) := (setRow_other V g2 g3 cs (Ne.symm n23)).trans bb3
 have x2 : (V.setRow g3 cs').heap[g2]? = some (.cells old t2 (0, 0)) := (setRow_other V g3 g2 cs' n23).trans bb2
 have q3 := store_run' (P := P) (W := V.setRow g2 cs) ho3 v3 v3' x3 hi1 hs' hc1
 have q2 := store_run' (P := P) (W := V.setRow g3 cs') ho2 v2 v2' x2 hi0 hs hc0
 refine one_ (i := 2) (N := none) _ h2 hd2 c2 (by simp) (fun K hK => ?_)
 refine skip_ (wanted_none hg2) hd2 r2 (hK.out _ _ (keep _ _ _ ⟨n02, n12⟩ hHeld) (fun hHeld2 => ?_))
 refine one_ (i := 3) (N := none) _ h3 hd3 c5 (by simp) (fun K2 hK2 => ?_)
 refine skip_ (wanted_none hg3) hd3 q3 (hK2.out _ _ (keep _ _ _ ⟨n03, n13⟩ hHeld2) (fun _ => ?_))
 refine done_ c7 (h _ ?_ ?_ (Grown2.of (grown_setRow V g2 cs) (grown_setRow _ g3 cs')))
 ·exact (setRow_other _ g3 g2 cs' n23).trans (setRow_heap V g2 old cs t2 (0, 0) bb2)
 ·exact setRow_heap _ g3 old' cs' t3 (0, 0) x3
end Go.Proofs.Ytlgihjhlkpmpnaa.Wire
