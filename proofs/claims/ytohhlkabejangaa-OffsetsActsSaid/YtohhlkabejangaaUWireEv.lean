import Derived.Test.YtohhlkabejangaaUPOfx4
-- halved
namespace Go.Proofs.Ytohhlkabejangaa.Wire
set_option linter.unusedVariables false
set_option linter.unusedSimpArgs false
open Go.RowKit Go.Proofs.YtohhlkabejangaaW.PrintWords Go.Proofs.YtohhlkabejangaaW.PrintLast Go.Proofs.YtohhlkabejangaaW.PrintMore
section
variable {P : Program} {ops : Array Oper} {rest : List Oper} {o : Oper} {a : Act} {Q : Exit → Act → World → Prop} {W : World}
theorem below_put {B : Nat} {w W W' : World} {g : Nat} (h : Below B w W) (hB : B ≤ g) (hg : W.grownBy W' (some g)) (hW : B ≤ W.heap.size) : Below B w W' :=
 ⟨hg.os.trans h.os, hg.tape.trans h.tape, hg.output.trans h.output, Nat.le_trans h.size hg.size, fun i hi => (hg.block i (Nat.lt_of_lt_of_le hi hW) (fun e => by have := Option.some.inj e; omega)).trans (h.block i hi)⟩
theorem grown_setRow (W : World) (g : Nat) (cs : Array Value) : W.grownBy (W.setRow g cs) (some g) :=
 ⟨rfl, rfl, rfl, by simp, fun i _ hne => setRow_other W g i cs (fun e => hne (by rw [e]))⟩
theorem grown_at {W W' : World} {g b : Nat} {ob : Obj} (hg : W.grownBy W' (some g)) (h : W.heap[b]? = some ob) (hne : b ≠ g) : W'.heap[b]? = some ob :=
 (hg.block b (blk_lt h) (fun e => hne (Option.some.inj e))).trans h
theorem load_ev {N : Tmp} (hN : o.dst = some N) (hgd : o.guard = none) {ty : TypeId} {p : Tmp} (ho : o.op = .load ty (.tmp p)) {g : Nat} (hx : a.eval (.tmp p) = .pointer (some ⟨g, 0, none⟩)) {t : TypeId} {cs : Array Value} {d : TypeDesc} (hg : W.heap[g]? = some (.cells cs t (0, 0)))
  (hu : P.underlying ty = some d) (hd : (match d with | .struct _ | .array _ _ => true | _ => false) = true) (hi : (P.info? ty).map (·.size) = some cs.size)
  (h : wpList P ops Q rest (a.put o.dst (.agg cs)) W) : wpList P ops Q (o :: rest) a W := wpList_load_row hgd ty (.tmp p) ho g hx t cs (0, 0) d hg hu hd hi h
theorem store_ev (hgd : o.guard = none) (hN : o.dst = none) {ty : TypeId} {p : Tmp} {q : Operand} (ho : o.op = .store ty (.tmp p) q) {g : Nat} {cells : Array Value} (hx : a.eval (.tmp p) = .pointer (some ⟨g, 0, none⟩)) (hy : a.eval q = .agg cells)
  {t : TypeId} {old : Array Value} (hg : W.heap[g]? = some (.cells old t (0, 0))) (hi : (P.info? ty).map (·.size) = some cells.size) (hold : old.size = cells.size) (h1 : cells.all (·.oneCell') = true)
  (h : ∀ W', W'.heap[g]? = some (.cells cells t (0, 0)) → W.grownBy W' (some g) → wpList P ops Q rest a W') : wpList P ops Q (o :: rest) a W :=
 wpList_store_row hgd ty (.tmp p) q ho g cells hx hy t old hg hi hold h1 (by rw [hN]; exact h _ (setRow_heap W g old cells t (0, 0) hg) (grown_setRow W g cells))
end
end Go.Proofs.Ytohhlkabejangaa.Wire
