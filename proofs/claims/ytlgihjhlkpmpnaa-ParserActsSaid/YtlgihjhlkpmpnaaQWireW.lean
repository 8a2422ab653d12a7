import Derived.Test.YtlgihjhlkpmpnaaQWireU
-- halved
namespace Go.Proofs.Ytlgihjhlkpmpnaa.Wire
set_option linter.unusedVariables false
set_option linter.unusedSimpArgs false
open Go.RowKit Go.Proofs.YtlgihjhlkpmpnaaW.PrintWords Go.Proofs.YtlgihjhlkpmpnaaW.PrintLast Go.Proofs.YtlgihjhlkpmpnaaW.PrintMore Go.Proofs.Ytlgihjhlkpmpnaa.Hand Go.Proofs.Ytlgihjhlkpmpnaa.PWire Go.Proofs.Ytlgihjhlkpmpnaa.PureNums
/-- the first cells of a greater variable, as a struct -/
theorem run_loadVar_pre {P : Program} (w : World) (g : Nat) (t ty : TypeId) (cs ex : Array Value) (fr : Nat × Nat) (d : TypeDesc) (hg : w.heap[g]? = some (.cells (cs ++ ex) t fr))
  (hu : P.underlying ty = some d) (hd : (match d with | .struct _ | .array _ _ => true | _ => false) = true) (hi : (P.info? ty).map (·.size) = some cs.size) :
  (loadVar ty ⟨g, 0, none⟩).run P w = .ok (.agg cs) w := by
 have hl : (loadCells ⟨g, 0, none⟩ cs.toList.length).run P w = .ok cs.toList.toArray w :=
  run_loadCells_list (P := P) w ⟨g, 0, none⟩ cs.toList (fun j v hv => by
   have hadd : (⟨g, 0, none⟩ : Addr).add j = ⟨g, j, none⟩ := by unfold Addr.add; split <;> simp_all
   rw [hadd, cell_of_row w g j (cs ++ ex) t fr hg]
   have hj : j < cs.size := by
    have := List.getElem?_eq_some_iff.1 hv
    obtain ⟨q, _⟩ := this
    simpa using q
   rw [Array.getElem?_append_left hj]
   simpa using hv)
 cases hq : P.info? ty with
 | none => simp [hq] at hi
 | some i =>
  have hs : i.size = cs.size := by simpa [hq] using hi
  have hagg : (isAgg ty).run P w = .ok true w := by
   unfold isAgg
   rw [Sem.run_bind, run_underlying hu w]
   cases d <;> simp_all
  simp only [Array.length_toList, Array.toArray_toList] at hl
  simp [loadVar, Sem.run_bind, hagg, sizeOf, typeInfo, hq, hs, hl]
end Go.Proofs.Ytlgihjhlkpmpnaa.Wire
