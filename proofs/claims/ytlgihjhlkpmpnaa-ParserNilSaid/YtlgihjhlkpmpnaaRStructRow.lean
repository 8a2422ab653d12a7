import Derived.Lib.SmallJoins
import Derived.Deep.Slices
import Derived.Deep.Fields
import Derived.ChangeSame
namespace Go.Proofs.Ytlgihjhlkpmpnaa.StructRow
open Go.RowKit Go.Joins Go.ChangeShapes Go.WideShapes Go.Deep
/- Structs of one-cell fields by value, opened and shut, whatever the number of fields. -/
section
variable {H : Type} {enc : TypeId × Value → H} {P : Program} {w : World} {base : Nat} {spare : Nat → Bool} {held : Bool}
/-- each field read by its own cell -/
def Reads (enc : TypeId × Value → H) (P : Program) (w : World) (base : Nat) (spare : Nat → Bool) (held : Bool) (n : Nat) : List Field → List Value → List (DataW H × List MemPlace) → Prop
  | [], [], [] => True
  | f :: fs, c :: cs, y :: ys => DataW.trod enc P w base spare held n f.type [c] = some y ∧ Reads enc P w base spare held n fs cs ys
  | _, _, _ => False
theorem reads_of {n : Nat} : ∀ {fs : List Field} {cs : List Value} {ys : List (DataW H × List MemPlace)}, cs.length = fs.length → ys.length = fs.length → (∀ (j : Nat) (f : Field) (c : Value), fs[j]? = some f → cs[j]? = some c → ∃ y, ys[j]? = some y ∧ DataW.trod enc P w base spare held n f.type [c] = some y) → Reads enc P w base spare held n fs cs ys
  | [], [], [], _, _, _ => trivial
  | f :: fs, c :: cs, y :: ys, h1, h2, h => by
    obtain ⟨y', e, h0⟩ := h 0 f c rfl rfl
    obtain rfl := Option.some.inj e
    exact ⟨h0, reads_of (by simpa using h1) (by simpa using h2) fun j f' c' a b => by simpa using h (j + 1) f' c' (by simpa using a) (by simpa using b)⟩
end
end Go.Proofs.Ytlgihjhlkpmpnaa.StructRow
