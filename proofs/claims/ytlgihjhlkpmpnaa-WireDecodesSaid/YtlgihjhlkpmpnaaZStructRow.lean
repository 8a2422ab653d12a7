import Derived.Lib.SmallJoins
import Derived.Deep.Slices
import Derived.Deep.Fields
import Derived.ChangeSame
namespace Go.Proofs.Ytlgihjhlkpmpnaa.StructRow
open Go.RowKit Go.Joins Go.ChangeShapes Go.WideShapes Go.Deep
/- Structs of one-cell fields by value, opened and shut, whatever the number of fields. -/
section
variable {H : Type} {enc : TypeId × Value → H} {P : Program} {w : World} {base : Nat} {spare : Nat → Bool} {held : Bool}
/-- each field read by its own cell -/
def Reads (enc : TypeId × Value → H) (P : Program) (w : World) (base : Nat) (spare : Nat → Bool) (held : Bool) (n : Nat) : List Field → List Value → List (DataW H × List MemPlace) → Prop
  | [], [], [] => True
  | f :: fs, c :: cs, y :: ys => DataW.trod enc P w base spare held n f.type [c] = some y ∧ Reads enc P w base spare held n fs cs ys
  | _, _, _ => False
end
end Go.Proofs.Ytlgihjhlkpmpnaa.StructRow
