import Derived.Test.YtlgihjhlkpmpnaaRWireC
namespace Go.Proofs.Ytlgihjhlkpmpnaa.Wire
set_option linter.unusedVariables false
set_option linter.unusedSimpArgs false
open Go.RowKit Go.Proofs.YtlgihjhlkpmpnaaW.PrintWords Go.Proofs.YtlgihjhlkpmpnaaW.PrintLast Go.Proofs.YtlgihjhlkpmpnaaW.PrintMore Go.Proofs.Ytlgihjhlkpmpnaa.PWire

/-- two blocks, and new ones, have turned -/
structure Grown2 (W W' : World) (g h : Nat) : Prop where
  os : W'.os = W.os
  tape : W'.tape = W.tape
  output : W'.output = W.output
  size : W.heap.size ≤ W'.heap.size
  block : ∀ i, i < W.heap.size → i ≠ g → i ≠ h → W'.heap[i]? = W.heap[i]?
theorem Grown2.of {W W1 W' : World} {g h : Nat} (h1 : W.grownBy W1 (some g)) (h2 : W1.grownBy W' (some h)) : Grown2 W W' g h :=
  ⟨h2.os.trans h1.os, h2.tape.trans h1.tape, h2.output.trans h1.output, Nat.le_trans h1.size h2.size, fun i hi hg hh => (h2.block i (Nat.lt_of_lt_of_le hi h1.size) (fun e => hh (Option.some.inj e))).trans (h1.block i hi (fun e => hg (Option.some.inj e)))⟩
theorem Grown2.below {B : Nat} {w W W' : World} {g h : Nat} (h1 : Grown2 W W' g h) (hb : Below B w W) (hg : B ≤ g) (hh : B ≤ h) (hB : B ≤ W.heap.size) : Below B w W' :=
  ⟨h1.os.trans hb.os, h1.tape.trans hb.tape, h1.output.trans hb.output, Nat.le_trans hb.size h1.size, fun i hi => (h1.block i (Nat.lt_of_lt_of_le hi hB) (by omega) (by omega)).trans (hb.block i hi)⟩
theorem Grown2.pairs {w W W' : World} {g h : Nat} {u : Value} {ps : List S102} {cs cs' : Array Value} {t t' : TypeId} (h1 : Grown2 W W' g h) (hr : Kd.R k102 102 W w.heap.size (fun _ => True) u ps) (hg : W.heap[g]? = some (.cells cs t (0, 0))) (ht : t ≠ 102) (hh : W.heap[h]? = some (.cells cs' t' (0, 0))) (ht' : t' ≠ 102) : Kd.R k102 102 W' w.heap.size (fun _ => True) u ps :=
  Kd.R_mono (Kd.R_move (Kd.R_bound hr) (fun k hk => by
    obtain ⟨q, hq, cells, hc⟩ := hk.2.2.2
    have hE : k102.E = [] := rfl
    rw [hE, List.mem_singleton] at hq
    subst hq
    refine h1.block k hk.2.2.1 (fun e => ?_) (fun e => ?_)
    · rw [e, hg] at hc; injection hc with hc; injection hc with _ hc; exact ht hc
    · rw [e, hh] at hc; injection hc with hc; injection hc with _ hc; exact ht' hc)) (fun _ _ => trivial)
theorem load_run' {P : Program} {o : Oper} {a : Act} {W : World} {ty : TypeId} {p : Tmp} (ho : o.op = .load ty (.tmp p)) {g : Nat} (hx : a.eval (.tmp p) = .pointer (some ⟨g, 0, none⟩)) {t : TypeId} {cs : Array Value} {d : TypeDesc} (hg : W.heap[g]? = some (.cells cs t (0, 0)))
    (hu : P.underlying ty = some d) (hd : (match d with | .struct _ | .array _ _ => true | _ => false) = true) (hi : (P.info? ty).map (·.size) = some cs.size) : (execOp a.eval o).run P W = .ok (.value (.agg cs)) W := by
  unfold execOp
  simp only [ho, hx, Instr.loadAt, Instr.sureAddr, Sem.run_bind, Sem.run_pure, Result.andThen_ok, run_loadVar_row W g t ty cs (0, 0) d hg hu hd hi]
end Go.Proofs.Ytlgihjhlkpmpnaa.Wire
