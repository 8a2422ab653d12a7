/-
  No cell of these rows narrows 'for every input' (looked for: loops, veiled, ifaces, maps, wideKeys, modest, calm, conditions, laid).
  DERIVED. THE GIVEN ROWS OF THIS SEAT. 9 by the template 'for every input the law returns true; each argument reads behind the call as it read before'; 0 by the template 'total and deterministic' (their statements: YtgojaomldkgojaaTotals.lean).
  GIVEN WITH THE SEED: the statements are not yours to turn. If you find one false, say at which input.
  Laid BY PROGRAM, IN A SANDBOX (cutbox-rows.mjs): the forced cells as the released guide's own fill.sh prints them over the translation 205bf8d7b95bbf92… (all of the seat's roots in one cut). By AI agents, Wed Nov 11 2026. No macro, syntax, notation, axiom, sorry.
-/
import Derived.Test.YtgojaomldkgojaaChecked
import GoSem.Claim
import GoSem.ClaimJoined
import GoSem.ClaimMapViews
import Derived.JoinedTies
import Derived.KernelRfl
namespace Go.Proofs.Ytgojaomldkgojaa
/- THE CELL 'sum', in the pinned program and in every row, IS THE sha256 OF THE DUMP (.gsa) THAT YtgojaomldkgojaaProg.lean LOADS. Nothing in Lean hashes anything: it is a label: what it is worth is what the hold of that sum in a sandbox is worth. -/
noncomputable def Try.pinned : Pinned := { name := "ytgojaomldkgojaa", sum := "205bf8d7b95bbf92a8ff96b62c4aab4c476d37a244d2782f49723528fafbf37c", checked := Try.checked }
namespace Rows
def none {H : Type} : Left H := { results := [], args := [] }

/-- 'weighlocklaw21.CompactKeeps': WHATEVER THE INPUT: true; the input reads as it did. -/
def compactKeepsSpec : ChangeSpec := { name := "compactKeeps", fn := fun _ => fun
  | [d1, d2] => { results := [.lit (.bool true)], args := [d1, d2] }
  | _ => none }
def compactKeepsRow : OpenClaim := { program := "ytgojaomldkgojaa", sum := "205bf8d7b95bbf92a8ff96b62c4aab4c476d37a244d2782f49723528fafbf37c", func := "weighlock/weighlocklaw21.CompactKeeps", spec := "compactKeeps", unfollowed := true, recurses := true, apart := false }
def CompactKeepsSaid : Prop := compactKeepsRow.holds Try.pinned (OpenSpec.ofChange compactKeepsSpec)

/-- ITS FALSE NEIGHBOUR: 'it returns false'. Refute it at one input. -/
def compactKeepsWrong : ChangeSpec := { name := "compactKeeps", fn := fun _ => fun
  | [d1, d2] => { results := [.lit (.bool false)], args := [d1, d2] }
  | _ => none }
def CompactKeepsWrongFalsely : Prop := compactKeepsRow.holds Try.pinned (OpenSpec.ofChange compactKeepsWrong)

/-- 'weighlocklaw21.CompactViews': WHATEVER THE INPUT: true; the input reads as it did. -/
def compactViewsSpec : ChangeSpec := { name := "compactViews", fn := fun _ => fun
  | [d1, d2, d3] => { results := [.lit (.bool true)], args := [d1, d2, d3] }
  | _ => none }
def compactViewsRow : OpenClaim := { program := "ytgojaomldkgojaa", sum := "205bf8d7b95bbf92a8ff96b62c4aab4c476d37a244d2782f49723528fafbf37c", func := "weighlock/weighlocklaw21.CompactViews", spec := "compactViews", unfollowed := true, recurses := true, apart := false }
def CompactViewsSaid : Prop := compactViewsRow.holds Try.pinned (OpenSpec.ofChange compactViewsSpec)

/-- ITS FALSE NEIGHBOUR: 'it returns false'. Refute it at one input. -/
def compactViewsWrong : ChangeSpec := { name := "compactViews", fn := fun _ => fun
  | [d1, d2, d3] => { results := [.lit (.bool false)], args := [d1, d2, d3] }
  | _ => none }
def CompactViewsWrongFalsely : Prop := compactViewsRow.holds Try.pinned (OpenSpec.ofChange compactViewsWrong)

/-- 'weighlocklaw21.CompactOrder': WHATEVER THE INPUT: true; the input reads as it did. -/
def compactOrderSpec : ChangeSpec := { name := "compactOrder", fn := fun _ => fun
  | [d1, d2] => { results := [.lit (.bool true)], args := [d1, d2] }
  | _ => none }
def compactOrderRow : OpenClaim := { program := "ytgojaomldkgojaa", sum := "205bf8d7b95bbf92a8ff96b62c4aab4c476d37a244d2782f49723528fafbf37c", func := "weighlock/weighlocklaw21.CompactOrder", spec := "compactOrder", unfollowed := true, recurses := true, apart := false }
def CompactOrderSaid : Prop := compactOrderRow.holds Try.pinned (OpenSpec.ofChange compactOrderSpec)

/-- ITS FALSE NEIGHBOUR: 'it returns false'. Refute it at one input. -/
def compactOrderWrong : ChangeSpec := { name := "compactOrder", fn := fun _ => fun
  | [d1, d2] => { results := [.lit (.bool false)], args := [d1, d2] }
  | _ => none }
def CompactOrderWrongFalsely : Prop := compactOrderRow.holds Try.pinned (OpenSpec.ofChange compactOrderWrong)

/-- 'weighlocklaw18.DedupActs': WHATEVER THE INPUT: true; the input reads as it did. -/
def dedupActsSpec : ChangeSpec := { name := "dedupActs", fn := fun _ => fun
  | [d] => { results := [.lit (.bool true)], args := [d] }
  | _ => none }
def dedupActsRow : OpenClaim := { program := "ytgojaomldkgojaa", sum := "205bf8d7b95bbf92a8ff96b62c4aab4c476d37a244d2782f49723528fafbf37c", func := "weighlock/weighlocklaw18.DedupActs", spec := "dedupActs", unfollowed := true, recurses := true, apart := false }
def DedupActsSaid : Prop := dedupActsRow.holds Try.pinned (OpenSpec.ofChange dedupActsSpec)

/-- ITS FALSE NEIGHBOUR: 'it returns false'. Refute it at one input. -/
def dedupActsWrong : ChangeSpec := { name := "dedupActs", fn := fun _ => fun
  | [d] => { results := [.lit (.bool false)], args := [d] }
  | _ => none }
def DedupActsWrongFalsely : Prop := dedupActsRow.holds Try.pinned (OpenSpec.ofChange dedupActsWrong)

/-- 'weighlocklaw18.DedupNil': WHATEVER THE INPUT: true; the input reads as it did. -/
def dedupNilSpec : ChangeSpec := { name := "dedupNil", fn := fun _ => fun
  | [d] => { results := [.lit (.bool true)], args := [d] }
  | _ => none }
def dedupNilRow : OpenClaim := { program := "ytgojaomldkgojaa", sum := "205bf8d7b95bbf92a8ff96b62c4aab4c476d37a244d2782f49723528fafbf37c", func := "weighlock/weighlocklaw18.DedupNil", spec := "dedupNil", unfollowed := true, recurses := true, apart := false }
def DedupNilSaid : Prop := dedupNilRow.holds Try.pinned (OpenSpec.ofChange dedupNilSpec)

/-- ITS FALSE NEIGHBOUR: 'it returns false'. Refute it at one input. -/
def dedupNilWrong : ChangeSpec := { name := "dedupNil", fn := fun _ => fun
  | [d] => { results := [.lit (.bool false)], args := [d] }
  | _ => none }
def DedupNilWrongFalsely : Prop := dedupNilRow.holds Try.pinned (OpenSpec.ofChange dedupNilWrong)

/-- 'weighlocklaw28.AssignRanges': WHATEVER THE INPUT: true; the input reads as it did. -/
def assignRangesSpec : ChangeSpec := { name := "assignRanges", fn := fun _ => fun
  | [d1, d2, d3] => { results := [.lit (.bool true)], args := [d1, d2, d3] }
  | _ => none }
def assignRangesRow : OpenClaim := { program := "ytgojaomldkgojaa", sum := "205bf8d7b95bbf92a8ff96b62c4aab4c476d37a244d2782f49723528fafbf37c", func := "weighlock/weighlocklaw28.AssignRanges", spec := "assignRanges", unfollowed := true, recurses := true, apart := false }
def AssignRangesSaid : Prop := assignRangesRow.holds Try.pinned (OpenSpec.ofChange assignRangesSpec)

/-- ITS FALSE NEIGHBOUR: 'it returns false'. Refute it at one input. -/
def assignRangesWrong : ChangeSpec := { name := "assignRanges", fn := fun _ => fun
  | [d1, d2, d3] => { results := [.lit (.bool false)], args := [d1, d2, d3] }
  | _ => none }
def AssignRangesWrongFalsely : Prop := assignRangesRow.holds Try.pinned (OpenSpec.ofChange assignRangesWrong)

/-- 'weighlocklaw28.AssignParts': WHATEVER THE INPUT: true; the input reads as it did. -/
def assignPartsSpec : ChangeSpec := { name := "assignParts", fn := fun _ => fun
  | [d1, d2] => { results := [.lit (.bool true)], args := [d1, d2] }
  | _ => none }
def assignPartsRow : OpenClaim := { program := "ytgojaomldkgojaa", sum := "205bf8d7b95bbf92a8ff96b62c4aab4c476d37a244d2782f49723528fafbf37c", func := "weighlock/weighlocklaw28.AssignParts", spec := "assignParts", unfollowed := true, recurses := true, apart := false }
def AssignPartsSaid : Prop := assignPartsRow.holds Try.pinned (OpenSpec.ofChange assignPartsSpec)

/-- ITS FALSE NEIGHBOUR: 'it returns false'. Refute it at one input. -/
def assignPartsWrong : ChangeSpec := { name := "assignParts", fn := fun _ => fun
  | [d1, d2] => { results := [.lit (.bool false)], args := [d1, d2] }
  | _ => none }
def AssignPartsWrongFalsely : Prop := assignPartsRow.holds Try.pinned (OpenSpec.ofChange assignPartsWrong)

/-- 'weighlocklaw28.AssignTurned': WHATEVER THE INPUT: true; the input reads as it did. -/
def assignTurnedSpec : ChangeSpec := { name := "assignTurned", fn := fun _ => fun
  | [d1, d2, d3] => { results := [.lit (.bool true)], args := [d1, d2, d3] }
  | _ => none }
def assignTurnedRow : OpenClaim := { program := "ytgojaomldkgojaa", sum := "205bf8d7b95bbf92a8ff96b62c4aab4c476d37a244d2782f49723528fafbf37c", func := "weighlock/weighlocklaw28.AssignTurned", spec := "assignTurned", unfollowed := true, recurses := true, apart := false }
def AssignTurnedSaid : Prop := assignTurnedRow.holds Try.pinned (OpenSpec.ofChange assignTurnedSpec)

/-- ITS FALSE NEIGHBOUR: 'it returns false'. Refute it at one input. -/
def assignTurnedWrong : ChangeSpec := { name := "assignTurned", fn := fun _ => fun
  | [d1, d2, d3] => { results := [.lit (.bool false)], args := [d1, d2, d3] }
  | _ => none }
def AssignTurnedWrongFalsely : Prop := assignTurnedRow.holds Try.pinned (OpenSpec.ofChange assignTurnedWrong)

/-- 'weighlocklaw18.DedupDecodes': WHATEVER THE INPUT: true; the input reads as it did. -/
def dedupDecodesSpec : ChangeSpec := { name := "dedupDecodes", fn := fun _ => fun
  | [d1, d2] => { results := [.lit (.bool true)], args := [d1, d2] }
  | _ => none }
def dedupDecodesRow : OpenClaim := { program := "ytgojaomldkgojaa", sum := "205bf8d7b95bbf92a8ff96b62c4aab4c476d37a244d2782f49723528fafbf37c", func := "weighlock/weighlocklaw18.DedupDecodes", spec := "dedupDecodes", unfollowed := true, recurses := true, apart := false }
def DedupDecodesSaid : Prop := dedupDecodesRow.holds Try.pinned (OpenSpec.ofChange dedupDecodesSpec)

/-- ITS FALSE NEIGHBOUR: 'it returns false'. Refute it at one input. -/
def dedupDecodesWrong : ChangeSpec := { name := "dedupDecodes", fn := fun _ => fun
  | [d1, d2] => { results := [.lit (.bool false)], args := [d1, d2] }
  | _ => none }
def DedupDecodesWrongFalsely : Prop := dedupDecodesRow.holds Try.pinned (OpenSpec.ofChange dedupDecodesWrong)

/- THE SECOND FORM. 'bulk': how many values and letters a reading holds, each counted each time it is reached (what is shared counts as often as it is met; a slice's spare places count too). A statement '..UptoSaid' is the law's where the arguments, and the package variables that the reading takes, are together of bulk at most 1048576: NARROWER than '..Said'. Prove '..Said' where nothing that the law and all that it calls make is longer than what came in: it says more and counts as full. Else prove '..UptoSaid'. A law counts once. -/
mutual
def uptoBulk {H : Type} : DataW H → Nat
  | .lit (.string bytes) => bytes.length + 1
  | .lit _ => 1
  | .nil => 1
  | .ptr d => uptoBulk d + 1
  | .slice elems spare => uptoBulkAll elems + uptoBulkAll spare + 1
  | .agg parts => uptoBulkAll parts + 1
  | .iface _ d => uptoBulk d + 1
  | .map entries => uptoBulkEntries entries + 1
  | .held _ => 1
def uptoBulkAll {H : Type} : List (DataW H) → Nat
  | [] => 0
  | d :: r => uptoBulk d + uptoBulkAll r
def uptoBulkEntries {H : Type} : List (Lit × DataW H) → Nat
  | [] => 0
  | x :: r => uptoBulkEntry x + uptoBulkEntries r
def uptoBulkEntry {H : Type} : Lit × DataW H → Nat
  | (.string bytes, d) => bytes.length + uptoBulk d + 1
  | (_, d) => uptoBulk d + 1
 end
def uptoSmall : (H : Type) → List (DataW H) → Bool := fun _ ds => decide (uptoBulkAll ds ≤ 1048576)
def OpenSpec.upto (s : _root_.Go.ChangeSpec) : _root_.Go.OpenSpec := { _root_.Go.OpenSpec.ofChange s with cond := some uptoSmall }

/-- 'weighlocklaw21.CompactKeeps', WHERE WHAT IT READS IS OF BULK AT MOST 1048576: true; the input reads as it did. -/
def compactKeepsUptoRow : OpenClaim := { program := "ytgojaomldkgojaa", sum := "205bf8d7b95bbf92a8ff96b62c4aab4c476d37a244d2782f49723528fafbf37c", func := "weighlock/weighlocklaw21.CompactKeeps", spec := "compactKeeps", unfollowed := true, recurses := true, apart := false, narrowed := true }
def CompactKeepsUptoSaid : Prop := compactKeepsUptoRow.holds Try.pinned (OpenSpec.upto compactKeepsSpec)

/-- 'weighlocklaw21.CompactViews', WHERE WHAT IT READS IS OF BULK AT MOST 1048576: true; the input reads as it did. -/
def compactViewsUptoRow : OpenClaim := { program := "ytgojaomldkgojaa", sum := "205bf8d7b95bbf92a8ff96b62c4aab4c476d37a244d2782f49723528fafbf37c", func := "weighlock/weighlocklaw21.CompactViews", spec := "compactViews", unfollowed := true, recurses := true, apart := false, narrowed := true }
def CompactViewsUptoSaid : Prop := compactViewsUptoRow.holds Try.pinned (OpenSpec.upto compactViewsSpec)

/-- 'weighlocklaw21.CompactOrder', WHERE WHAT IT READS IS OF BULK AT MOST 1048576: true; the input reads as it did. -/
def compactOrderUptoRow : OpenClaim := { program := "ytgojaomldkgojaa", sum := "205bf8d7b95bbf92a8ff96b62c4aab4c476d37a244d2782f49723528fafbf37c", func := "weighlock/weighlocklaw21.CompactOrder", spec := "compactOrder", unfollowed := true, recurses := true, apart := false, narrowed := true }
def CompactOrderUptoSaid : Prop := compactOrderUptoRow.holds Try.pinned (OpenSpec.upto compactOrderSpec)

/-- 'weighlocklaw18.DedupActs', WHERE WHAT IT READS IS OF BULK AT MOST 1048576: true; the input reads as it did. -/
def dedupActsUptoRow : OpenClaim := { program := "ytgojaomldkgojaa", sum := "205bf8d7b95bbf92a8ff96b62c4aab4c476d37a244d2782f49723528fafbf37c", func := "weighlock/weighlocklaw18.DedupActs", spec := "dedupActs", unfollowed := true, recurses := true, apart := false, narrowed := true }
def DedupActsUptoSaid : Prop := dedupActsUptoRow.holds Try.pinned (OpenSpec.upto dedupActsSpec)

/-- 'weighlocklaw18.DedupNil', WHERE WHAT IT READS IS OF BULK AT MOST 1048576: true; the input reads as it did. -/
def dedupNilUptoRow : OpenClaim := { program := "ytgojaomldkgojaa", sum := "205bf8d7b95bbf92a8ff96b62c4aab4c476d37a244d2782f49723528fafbf37c", func := "weighlock/weighlocklaw18.DedupNil", spec := "dedupNil", unfollowed := true, recurses := true, apart := false, narrowed := true }
def DedupNilUptoSaid : Prop := dedupNilUptoRow.holds Try.pinned (OpenSpec.upto dedupNilSpec)

/-- 'weighlocklaw28.AssignRanges', WHERE WHAT IT READS IS OF BULK AT MOST 1048576: true; the input reads as it did. -/
def assignRangesUptoRow : OpenClaim := { program := "ytgojaomldkgojaa", sum := "205bf8d7b95bbf92a8ff96b62c4aab4c476d37a244d2782f49723528fafbf37c", func := "weighlock/weighlocklaw28.AssignRanges", spec := "assignRanges", unfollowed := true, recurses := true, apart := false, narrowed := true }
def AssignRangesUptoSaid : Prop := assignRangesUptoRow.holds Try.pinned (OpenSpec.upto assignRangesSpec)

/-- 'weighlocklaw28.AssignParts', WHERE WHAT IT READS IS OF BULK AT MOST 1048576: true; the input reads as it did. -/
def assignPartsUptoRow : OpenClaim := { program := "ytgojaomldkgojaa", sum := "205bf8d7b95bbf92a8ff96b62c4aab4c476d37a244d2782f49723528fafbf37c", func := "weighlock/weighlocklaw28.AssignParts", spec := "assignParts", unfollowed := true, recurses := true, apart := false, narrowed := true }
def AssignPartsUptoSaid : Prop := assignPartsUptoRow.holds Try.pinned (OpenSpec.upto assignPartsSpec)

/-- 'weighlocklaw28.AssignTurned', WHERE WHAT IT READS IS OF BULK AT MOST 1048576: true; the input reads as it did. -/
def assignTurnedUptoRow : OpenClaim := { program := "ytgojaomldkgojaa", sum := "205bf8d7b95bbf92a8ff96b62c4aab4c476d37a244d2782f49723528fafbf37c", func := "weighlock/weighlocklaw28.AssignTurned", spec := "assignTurned", unfollowed := true, recurses := true, apart := false, narrowed := true }
def AssignTurnedUptoSaid : Prop := assignTurnedUptoRow.holds Try.pinned (OpenSpec.upto assignTurnedSpec)

/-- 'weighlocklaw18.DedupDecodes', WHERE WHAT IT READS IS OF BULK AT MOST 1048576: true; the input reads as it did. -/
def dedupDecodesUptoRow : OpenClaim := { program := "ytgojaomldkgojaa", sum := "205bf8d7b95bbf92a8ff96b62c4aab4c476d37a244d2782f49723528fafbf37c", func := "weighlock/weighlocklaw18.DedupDecodes", spec := "dedupDecodes", unfollowed := true, recurses := true, apart := false, narrowed := true }
def DedupDecodesUptoSaid : Prop := dedupDecodesUptoRow.holds Try.pinned (OpenSpec.upto dedupDecodesSpec)

end Rows
end Go.Proofs.Ytgojaomldkgojaa
