/-
  No cell of these rows narrows 'for every input' (looked for: loops, veiled, ifaces, maps, wideKeys, modest, calm, conditions, laid).
  DERIVED. THE GIVEN ROWS OF THIS SEAT. 3 by the template 'for every input the law returns true; each argument reads behind the call as it read before'; 0 by the template 'total and deterministic' (their statements: YtkkacbjopkaolaaTotals.lean).
  GIVEN WITH THE SEED: the statements are not yours to turn. If you find one false, say at which input.
  Laid BY PROGRAM, IN A SANDBOX (cutbox-rows.mjs): the forced cells as the released guide's own fill.sh prints them over the translation 05e820c4aeac049c… (all of the seat's roots in one cut). By AI agents, Wed Nov 11 2026. No macro, syntax, notation, axiom, sorry.
-/
import Derived.Test.YtkkacbjopkaolaaChecked
import GoSem.Claim
import GoSem.ClaimJoined
import GoSem.ClaimMapViews
import Derived.JoinedTies
import Derived.KernelRfl
namespace Go.Proofs.Ytkkacbjopkaolaa
/- THE CELL 'sum', in the pinned program and in every row, IS THE sha256 OF THE DUMP (.gsa) THAT YtkkacbjopkaolaaProg.lean LOADS. Nothing in Lean hashes anything: it is a label: what it is worth is what the hold of that sum in a sandbox is worth. -/
noncomputable def Try.pinned : Pinned := { name := "ytkkacbjopkaolaa", sum := "05e820c4aeac049cd33c3cba89645d6a0ec6e212aeebe0cb3e353aac741a4c9f", checked := Try.checked }
namespace Rows
def none {H : Type} : Left H := { results := [], args := [] }

/-- 'weighlocklaw22.TopicCodes': WHATEVER THE INPUT: true; the input reads as it did. -/
def topicCodesSpec : ChangeSpec := { name := "topicCodes", fn := fun _ => fun
  | [d1, d2] => { results := [.lit (.bool true)], args := [d1, d2] }
  | _ => none }
def topicCodesRow : OpenClaim := { program := "ytkkacbjopkaolaa", sum := "05e820c4aeac049cd33c3cba89645d6a0ec6e212aeebe0cb3e353aac741a4c9f", func := "weighlock/weighlocklaw22.TopicCodes", spec := "topicCodes", unfollowed := true, recurses := true, apart := false }
def TopicCodesSaid : Prop := topicCodesRow.holds Try.pinned (OpenSpec.ofChange topicCodesSpec)

/-- ITS FALSE NEIGHBOUR: 'it returns false'. Refute it at one input. -/
def topicCodesWrong : ChangeSpec := { name := "topicCodes", fn := fun _ => fun
  | [d1, d2] => { results := [.lit (.bool false)], args := [d1, d2] }
  | _ => none }
def TopicCodesWrongFalsely : Prop := topicCodesRow.holds Try.pinned (OpenSpec.ofChange topicCodesWrong)

/-- 'weighlocklaw22.TopicDecodes': WHATEVER THE INPUT: true; the input reads as it did. -/
def topicDecodesSpec : ChangeSpec := { name := "topicDecodes", fn := fun _ => fun
  | [d] => { results := [.lit (.bool true)], args := [d] }
  | _ => none }
def topicDecodesRow : OpenClaim := { program := "ytkkacbjopkaolaa", sum := "05e820c4aeac049cd33c3cba89645d6a0ec6e212aeebe0cb3e353aac741a4c9f", func := "weighlock/weighlocklaw22.TopicDecodes", spec := "topicDecodes", unfollowed := true, recurses := true, apart := false }
def TopicDecodesSaid : Prop := topicDecodesRow.holds Try.pinned (OpenSpec.ofChange topicDecodesSpec)

/-- ITS FALSE NEIGHBOUR: 'it returns false'. Refute it at one input. -/
def topicDecodesWrong : ChangeSpec := { name := "topicDecodes", fn := fun _ => fun
  | [d] => { results := [.lit (.bool false)], args := [d] }
  | _ => none }
def TopicDecodesWrongFalsely : Prop := topicDecodesRow.holds Try.pinned (OpenSpec.ofChange topicDecodesWrong)

/-- 'weighlocklaw22.TopicPlaces': WHATEVER THE INPUT: true; the input reads as it did. -/
def topicPlacesSpec : ChangeSpec := { name := "topicPlaces", fn := fun _ => fun
  | [d1, d2] => { results := [.lit (.bool true)], args := [d1, d2] }
  | _ => none }
def topicPlacesRow : OpenClaim := { program := "ytkkacbjopkaolaa", sum := "05e820c4aeac049cd33c3cba89645d6a0ec6e212aeebe0cb3e353aac741a4c9f", func := "weighlock/weighlocklaw22.TopicPlaces", spec := "topicPlaces", unfollowed := true, recurses := true, apart := false }
def TopicPlacesSaid : Prop := topicPlacesRow.holds Try.pinned (OpenSpec.ofChange topicPlacesSpec)

/-- ITS FALSE NEIGHBOUR: 'it returns false'. Refute it at one input. -/
def topicPlacesWrong : ChangeSpec := { name := "topicPlaces", fn := fun _ => fun
  | [d1, d2] => { results := [.lit (.bool false)], args := [d1, d2] }
  | _ => none }
def TopicPlacesWrongFalsely : Prop := topicPlacesRow.holds Try.pinned (OpenSpec.ofChange topicPlacesWrong)

/- THE SECOND FORM. 'bulk': how many values and letters a reading holds, each counted each time it is reached (what is shared counts as often as it is met; a slice's spare places count too). A statement '..UptoSaid' is the law's where the arguments, and the package variables that the reading takes, are together of bulk at most 1048576: NARROWER than '..Said'. Prove '..Said' where nothing that the law and all that it calls make is longer than what came in: it says more and counts as full. Else prove '..UptoSaid'. A law counts once. -/
mutual
def uptoBulk {H : Type} : DataW H → Nat
  | .lit (.string bytes) => bytes.length + 1
  | .lit _ => 1
  | .nil => 1
  | .ptr d => uptoBulk d + 1
  | .slice elems spare => uptoBulkAll elems + uptoBulkAll spare + 1
  | .agg parts => uptoBulkAll parts + 1
  | .iface _ d => uptoBulk d + 1
  | .map entries => uptoBulkEntries entries + 1
  | .held _ => 1
def uptoBulkAll {H : Type} : List (DataW H) → Nat
  | [] => 0
  | d :: r => uptoBulk d + uptoBulkAll r
def uptoBulkEntries {H : Type} : List (Lit × DataW H) → Nat
  | [] => 0
  | x :: r => uptoBulkEntry x + uptoBulkEntries r
def uptoBulkEntry {H : Type} : Lit × DataW H → Nat
  | (.string bytes, d) => bytes.length + uptoBulk d + 1
  | (_, d) => uptoBulk d + 1
 end
def uptoSmall : (H : Type) → List (DataW H) → Bool := fun _ ds => decide (uptoBulkAll ds ≤ 1048576)
def OpenSpec.upto (s : _root_.Go.ChangeSpec) : _root_.Go.OpenSpec := { _root_.Go.OpenSpec.ofChange s with cond := some uptoSmall }

/-- 'weighlocklaw22.TopicCodes', WHERE WHAT IT READS IS OF BULK AT MOST 1048576: true; the input reads as it did. -/
def topicCodesUptoRow : OpenClaim := { program := "ytkkacbjopkaolaa", sum := "05e820c4aeac049cd33c3cba89645d6a0ec6e212aeebe0cb3e353aac741a4c9f", func := "weighlock/weighlocklaw22.TopicCodes", spec := "topicCodes", unfollowed := true, recurses := true, apart := false, narrowed := true }
def TopicCodesUptoSaid : Prop := topicCodesUptoRow.holds Try.pinned (OpenSpec.upto topicCodesSpec)

/-- 'weighlocklaw22.TopicDecodes', WHERE WHAT IT READS IS OF BULK AT MOST 1048576: true; the input reads as it did. -/
def topicDecodesUptoRow : OpenClaim := { program := "ytkkacbjopkaolaa", sum := "05e820c4aeac049cd33c3cba89645d6a0ec6e212aeebe0cb3e353aac741a4c9f", func := "weighlock/weighlocklaw22.TopicDecodes", spec := "topicDecodes", unfollowed := true, recurses := true, apart := false, narrowed := true }
def TopicDecodesUptoSaid : Prop := topicDecodesUptoRow.holds Try.pinned (OpenSpec.upto topicDecodesSpec)

/-- 'weighlocklaw22.TopicPlaces', WHERE WHAT IT READS IS OF BULK AT MOST 1048576: true; the input reads as it did. -/
def topicPlacesUptoRow : OpenClaim := { program := "ytkkacbjopkaolaa", sum := "05e820c4aeac049cd33c3cba89645d6a0ec6e212aeebe0cb3e353aac741a4c9f", func := "weighlock/weighlocklaw22.TopicPlaces", spec := "topicPlaces", unfollowed := true, recurses := true, apart := false, narrowed := true }
def TopicPlacesUptoSaid : Prop := topicPlacesUptoRow.holds Try.pinned (OpenSpec.upto topicPlacesSpec)

end Rows
end Go.Proofs.Ytkkacbjopkaolaa
