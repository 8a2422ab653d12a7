import Derived.Test.YtlgihjhlkpmpnaaZWireL
namespace Go.Proofs.Ytlgihjhlkpmpnaa.Wire
set_option linter.unusedVariables false
set_option linter.unusedSimpArgs false
open Go.RowKit Go.Proofs.YtlgihjhlkpmpnaaW.PrintWords Go.Proofs.YtlgihjhlkpmpnaaW.PrintLast Go.Proofs.YtlgihjhlkpmpnaaW.PrintMore Go.Proofs.Ytlgihjhlkpmpnaa.Hand Go.Proofs.Ytlgihjhlkpmpnaa.PWire Go.Proofs.Ytlgihjhlkpmpnaa.PureNums

/-- two readers tell the same -/
def Rel (a b : Rd) : Prop := a.2 = b.2 ∧ (a.2 = false → a.1 = b.1)
theorem Rel.refl (a : Rd) : Rel a a := ⟨rfl, fun _ => rfl⟩
/-- Decode's last word -/
def finD (n : Int) (t : Rst) : DecR := if t.r.2 = true then ⟨38, 0, rq0 0 0, []⟩ else if t.r.1.toList ≠ [] then ⟨38, 0, rq0 0 0, []⟩ else if mayB t.y t.ps = true then ⟨0, n, t.y, t.ps⟩ else ⟨38, 0, rq0 0 0, []⟩
theorem step76 (t : Rst) : reqStep t 76 = ⟨{t.y with label := (rdNum t.r).1}, t.ps, (rdNum t.r).2⟩ := rfl
end Go.Proofs.Ytlgihjhlkpmpnaa.Wire
