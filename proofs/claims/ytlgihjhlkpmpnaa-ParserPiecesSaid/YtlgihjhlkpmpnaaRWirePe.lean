import Derived.Test.YtlgihjhlkpmpnaaRWirePc
import Derived.Test.YtlgihjhlkpmpnaaRWireU
namespace Go.Proofs.Ytlgihjhlkpmpnaa.Wire
set_option linter.unusedVariables false
set_option linter.unusedSimpArgs false
open Go.RowKit Go.Proofs.YtlgihjhlkpmpnaaW.PrintWords Go.Proofs.YtlgihjhlkpmpnaaW.PrintLast Go.Proofs.YtlgihjhlkpmpnaaW.PrintMore Go.Proofs.Ytlgihjhlkpmpnaa.Hand Go.Proofs.Ytlgihjhlkpmpnaa.PWire Go.Proofs.Ytlgihjhlkpmpnaa.PureNums
/-- a call: Feed(s), then so many times Next -/
structure AP where
  s : ByteArray
  n : Int
structure Acts (w : World) (A : Option Addr) (n : Nat) (l : List AP) : Prop where
  len : l.length = n
  mx : n ≤ 9223372036854775807
  row : ∀ (i : Nat) (h : i < l.length), ∃ a, A = some a ∧ ∀ (j : Nat) (u : Value), (#[.string l[i].s, .int .i64 l[i].n] : Array Value)[j]? = some u → w.cell? ((a.add (i * 2)).add j) = some u
def actBad (p : AP) : Bool := decide (4100 < p.s.size) || decide (40 < p.n)
def actsBig (l : List AP) : Bool := decide (40 < l.length) || l.any actBad
theorem cell_of {B : Nat} {w w' : World} (h : Below B w w') {a : Addr} {v : Value} (hc : w.cell? a = some v) (hB : w.heap.size ≤ B) : w'.cell? a = some v := by
  rw [h.cell (Nat.lt_of_lt_of_le (World.block_lt_of_cell? w a hc) hB)]
  exact hc
theorem load_evm' {P : Program} {ops : Array Oper} {rest : List Oper} {o : Oper} {a : Act} {Q : Exit → Act → World → Prop} {W : World} {N : Tmp} (hN : o.dst = some N) (hgd : o.guard = none) {ty : TypeId} {p : Tmp} (ho : o.op = .load ty (.tmp p)) {b : Addr} {cs : Array Value} (hx : a.eval (.tmp p) = .pointer (some b)) {d : TypeDesc} (hc : ∀ (j : Nat) (v : Value), cs[j]? = some v → W.cell? (b.add j) = some v)
    (hu : P.underlying ty = some d) (hd : (match d with | .struct _ | .array _ _ => true | _ => false) = true) (hi : (P.info? ty).map (·.size) = some cs.size)
    (h : wpList P ops Q rest (a.put o.dst (.agg cs)) W) : wpList P ops Q (o :: rest) a W := by
  have hl : (loadCells b cs.toList.length).run P W = .ok cs.toList.toArray W :=
    run_loadCells_list (P := P) W b cs.toList (fun j v hv => hc j v (by simpa using hv))
  have hv : (loadVar ty b).run P W = .ok (.agg cs) W := by
    cases hq : P.info? ty with
    | none => simp [hq] at hi
    | some i =>
      have hs : i.size = cs.size := by simpa [hq] using hi
      have hagg : (isAgg ty).run P W = .ok true W := by
        unfold isAgg
        rw [Sem.run_bind, run_underlying hu W]
        cases d <;> simp_all
      simp only [Array.length_toList, Array.toArray_toList] at hl
      simp [loadVar, Sem.run_bind, hagg, sizeOf, typeInfo, hq, hs, hl]
  have hw : Region.wanted o (yielded ops a.tmps) = true := by simp [Region.wanted, hgd]
  unfold wpList
  rw [if_pos hw]
  left
  unfold Oper.wp
  have hr : (execOp a.eval o).run P W = .ok (.value (.agg cs)) W := by
    unfold execOp
    simp only [ho, hx, Instr.loadAt, Instr.sureAddr, Sem.run_bind, Sem.run_pure, Result.andThen_ok, hv]
  rw [hr]
  exact h
theorem nextH_size (held : ByteArray) (br : Bool) : (nextH held br).size ≤ held.size := by
  cases br with
  | true => exact Nat.le_refl _
  | false =>
    show (cutS held).size ≤ _
    unfold cutS
    rw [ByteArray.size_extract]
    omega
theorem feedB_size (held : ByteArray) (br : Bool) (s : ByteArray) (h : held.size ≤ 4000) : (feedB held br s).1.size ≤ 4000 := by
  unfold feedB feedR
  split
  · exact h
  · split
    · exact h
    · show (held ++ s).size ≤ 4000
      rw [ByteArray.size_append]
      omega
end Go.Proofs.Ytlgihjhlkpmpnaa.Wire
