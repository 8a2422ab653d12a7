import Derived.Test.YtlgihjhlkpmpnaaRWireJ
import Derived.Test.YtlgihjhlkpmpnaaRWireK
namespace Go.Proofs.Ytlgihjhlkpmpnaa.Wire
set_option linter.unusedVariables false
set_option linter.unusedSimpArgs false
open Go.RowKit Go.Proofs.YtlgihjhlkpmpnaaW.PrintWords Go.Proofs.YtlgihjhlkpmpnaaW.PrintLast Go.Proofs.YtlgihjhlkpmpnaaW.PrintMore Go.Proofs.Ytlgihjhlkpmpnaa.Hand Go.Proofs.Ytlgihjhlkpmpnaa.PWire Go.Proofs.Ytlgihjhlkpmpnaa.PureNums

/-- two readers tell the same -/
def Rel (a b : Rd) : Prop := a.2 = b.2 ∧ (a.2 = false → a.1 = b.1)
theorem Rel.refl (a : Rd) : Rel a a := ⟨rfl, fun _ => rfl⟩
/-- Decode's last word -/
def finD (n : Int) (t : Rst) : DecR := if t.r.2 = true then ⟨38, 0, rq0 0 0, []⟩ else if t.r.1.toList ≠ [] then ⟨38, 0, rq0 0 0, []⟩ else if mayB t.y t.ps = true then ⟨0, n, t.y, t.ps⟩ else ⟨38, 0, rq0 0 0, []⟩
theorem step76 (t : Rst) : reqStep t 76 = ⟨{t.y with label := (rdNum t.r).1}, t.ps, (rdNum t.r).2⟩ := rfl
theorem step80 (t : Rst) : reqStep t 80 = ⟨{t.y with pp := (rdNum t.r).1}, t.ps, (rdNum t.r).2⟩ := rfl
theorem step79 (t : Rst) : reqStep t 79 = ⟨{t.y with off := (rdNum t.r).1}, t.ps, (rdNum t.r).2⟩ := rfl
theorem step77 (t : Rst) : reqStep t 77 = ⟨{t.y with most := (rdNum t.r).1}, t.ps, (rdNum t.r).2⟩ := rfl
theorem step69 (t : Rst) : reqStep t 69 = ⟨{t.y with gen := (rdNum t.r).1}, t.ps, (rdNum t.r).2⟩ := rfl
theorem step82 (t : Rst) : reqStep t 82 = ⟨{t.y with prod := (rdNum t.r).1}, t.ps, (rdNum t.r).2⟩ := rfl
theorem step83 (t : Rst) : reqStep t 83 = ⟨{t.y with seq := (rdNum t.r).1}, t.ps, (rdNum t.r).2⟩ := rfl
theorem step112 (t : Rst) : reqStep t 112 = ⟨{t.y with tp := (rdNum t.r).1}, t.ps, (rdNum t.r).2⟩ := rfl
theorem step84 (t : Rst) : reqStep t 84 = ⟨{t.y with pt := (rdText t.r).1}, t.ps, (rdText t.r).2⟩ := rfl
theorem step71 (t : Rst) : reqStep t 71 = ⟨{t.y with grp := (rdText t.r).1}, t.ps, (rdText t.r).2⟩ := rfl
theorem step78 (t : Rst) : reqStep t 78 = ⟨{t.y with mem := (rdText t.r).1}, t.ps, (rdText t.r).2⟩ := rfl
theorem step116 (t : Rst) : reqStep t 116 = ⟨{t.y with tt := (rdText t.r).1}, t.ps, (rdText t.r).2⟩ := rfl
theorem step66 (t : Rst) : reqStep t 66 = ⟨t.y, (rdPairs t.r).1, (rdPairs t.r).2⟩ := rfl
theorem step67 (t : Rst) : reqStep t 67 = ⟨{t.y with sn := (rdSpec t.r).1.n, sp := (rdSpec t.r).1.p, sa := (rdSpec t.r).1.a, ss := (rdSpec t.r).1.z, sc := (rdSpec t.r).1.c}, t.ps, (rdSpec t.r).2⟩ := rfl
end Go.Proofs.Ytlgihjhlkpmpnaa.Wire
