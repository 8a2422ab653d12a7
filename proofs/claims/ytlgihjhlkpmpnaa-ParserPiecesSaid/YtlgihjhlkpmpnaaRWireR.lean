import Derived.Test.YtlgihjhlkpmpnaaRWireQ
import Derived.Test.YtlgihjhlkpmpnaaRWireJ
import Derived.Test.YtlgihjhlkpmpnaaRWireK
namespace Go.Proofs.Ytlgihjhlkpmpnaa.Wire
set_option linter.unusedVariables false
set_option linter.unusedSimpArgs false
open Go.RowKit Go.Proofs.YtlgihjhlkpmpnaaW.PrintWords Go.Proofs.YtlgihjhlkpmpnaaW.PrintLast Go.Proofs.YtlgihjhlkpmpnaaW.PrintMore Go.Proofs.Ytlgihjhlkpmpnaa.Hand Go.Proofs.Ytlgihjhlkpmpnaa.PWire Go.Proofs.Ytlgihjhlkpmpnaa.PureNums
theorem may_pairs {y : Rq} {ps : List S102} (hk : y.kind = 1) (h : 16 < ps.length) : mayB y ps = false := by
  rw [Bool.eq_false_iff]
  intro hm
  have := (may_parts hm).2.2.1
  have e : lets (formF y.kind) = [76, 84, 80, 82, 83, 66] := by rw [hk]; rfl
  rw [e, List.all_eq_true] at this
  have h66 := this 66 (by simp)
  unfold okLetter at h66
  simp only [Bool.and_eq_true, if_true] at h66
  have h2 := h66.1.2
  unfold pairsB at h2
  simp only [Bool.and_eq_true, decide_eq_true_eq] at h2
  omega
end Go.Proofs.Ytlgihjhlkpmpnaa.Wire
