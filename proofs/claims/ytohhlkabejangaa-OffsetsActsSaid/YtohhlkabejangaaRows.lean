/-
  No cell of these rows narrows 'for every input' (looked for: loops, veiled, ifaces, maps, wideKeys, modest, calm, conditions, laid).
  DERIVED. THE GIVEN ROWS OF THIS SEAT. 13 by the template 'for every input the law returns true; each argument reads behind the call as it read before'; 0 by the template 'total and deterministic' (their statements: YtohhlkabejangaaTotals.lean).
  GIVEN WITH THE SEED: the statements are not yours to turn. If you find one false, say at which input.
  Laid BY PROGRAM, IN A SANDBOX (cutbox-rows.mjs): the forced cells as the released guide's own fill.sh prints them over the translation f1b45831cb36ff50… (all of the seat's roots in one cut). By AI agents, Wed Nov 11 2026. No macro, syntax, notation, axiom, sorry.
-/
import Derived.Test.YtohhlkabejangaaChecked
import GoSem.Claim
import GoSem.ClaimJoined
import GoSem.ClaimMapViews
import Derived.JoinedTies
import Derived.KernelRfl
namespace Go.Proofs.Ytohhlkabejangaa
/- THE CELL 'sum', in the pinned program and in every row, IS THE sha256 OF THE DUMP (.gsa) THAT YtohhlkabejangaaProg.lean LOADS. Nothing in Lean hashes anything: it is a label: what it is worth is what the hold of that sum in a sandbox is worth. -/
noncomputable def Try.pinned : Pinned := { name := "ytohhlkabejangaa", sum := "f1b45831cb36ff5062ab7e4c5e530def08dc687afdbc06319be57361f7fd32a9", checked := Try.checked }
namespace Rows
def none {H : Type} : Left H := { results := [], args := [] }

/-- 'weighlocklaw28.AssignRanges': WHATEVER THE INPUT: true; the input reads as it did. -/
def assignRangesSpec : ChangeSpec := { name := "assignRanges", fn := fun _ => fun
  | [d1, d2, d3] => { results := [.lit (.bool true)], args := [d1, d2, d3] }
  | _ => none }
def assignRangesRow : OpenClaim := { program := "ytohhlkabejangaa", sum := "f1b45831cb36ff5062ab7e4c5e530def08dc687afdbc06319be57361f7fd32a9", func := "weighlock/weighlocklaw28.AssignRanges", spec := "assignRanges", unfollowed := true, recurses := true, plainKeys := false, apart := false }
def AssignRangesSaid : Prop := assignRangesRow.holds Try.pinned (OpenSpec.ofChange assignRangesSpec)

/-- ITS FALSE NEIGHBOUR: 'it returns false'. Refute it at one input. -/
def assignRangesWrong : ChangeSpec := { name := "assignRanges", fn := fun _ => fun
  | [d1, d2, d3] => { results := [.lit (.bool false)], args := [d1, d2, d3] }
  | _ => none }
def AssignRangesWrongFalsely : Prop := assignRangesRow.holds Try.pinned (OpenSpec.ofChange assignRangesWrong)

/-- 'weighlocklaw28.AssignParts': WHATEVER THE INPUT: true; the input reads as it did. -/
def assignPartsSpec : ChangeSpec := { name := "assignParts", fn := fun _ => fun
  | [d1, d2] => { results := [.lit (.bool true)], args := [d1, d2] }
  | _ => none }
def assignPartsRow : OpenClaim := { program := "ytohhlkabejangaa", sum := "f1b45831cb36ff5062ab7e4c5e530def08dc687afdbc06319be57361f7fd32a9", func := "weighlock/weighlocklaw28.AssignParts", spec := "assignParts", unfollowed := true, recurses := true, plainKeys := false, apart := false }
def AssignPartsSaid : Prop := assignPartsRow.holds Try.pinned (OpenSpec.ofChange assignPartsSpec)

/-- ITS FALSE NEIGHBOUR: 'it returns false'. Refute it at one input. -/
def assignPartsWrong : ChangeSpec := { name := "assignParts", fn := fun _ => fun
  | [d1, d2] => { results := [.lit (.bool false)], args := [d1, d2] }
  | _ => none }
def AssignPartsWrongFalsely : Prop := assignPartsRow.holds Try.pinned (OpenSpec.ofChange assignPartsWrong)

/-- 'weighlocklaw28.AssignTurned': WHATEVER THE INPUT: true; the input reads as it did. -/
def assignTurnedSpec : ChangeSpec := { name := "assignTurned", fn := fun _ => fun
  | [d1, d2, d3] => { results := [.lit (.bool true)], args := [d1, d2, d3] }
  | _ => none }
def assignTurnedRow : OpenClaim := { program := "ytohhlkabejangaa", sum := "f1b45831cb36ff5062ab7e4c5e530def08dc687afdbc06319be57361f7fd32a9", func := "weighlock/weighlocklaw28.AssignTurned", spec := "assignTurned", unfollowed := true, recurses := true, plainKeys := false, apart := false }
def AssignTurnedSaid : Prop := assignTurnedRow.holds Try.pinned (OpenSpec.ofChange assignTurnedSpec)

/-- ITS FALSE NEIGHBOUR: 'it returns false'. Refute it at one input. -/
def assignTurnedWrong : ChangeSpec := { name := "assignTurned", fn := fun _ => fun
  | [d1, d2, d3] => { results := [.lit (.bool false)], args := [d1, d2, d3] }
  | _ => none }
def AssignTurnedWrongFalsely : Prop := assignTurnedRow.holds Try.pinned (OpenSpec.ofChange assignTurnedWrong)

/-- 'weighlocklaw29.MemberActs': WHATEVER THE INPUT: true; the input reads as it did. -/
def memberActsSpec : ChangeSpec := { name := "memberActs", fn := fun _ => fun
  | [d1, d2, d3] => { results := [.lit (.bool true)], args := [d1, d2, d3] }
  | _ => none }
def memberActsRow : OpenClaim := { program := "ytohhlkabejangaa", sum := "f1b45831cb36ff5062ab7e4c5e530def08dc687afdbc06319be57361f7fd32a9", func := "weighlock/weighlocklaw29.MemberActs", spec := "memberActs", unfollowed := true, recurses := true, plainKeys := false, apart := false }
def MemberActsSaid : Prop := memberActsRow.holds Try.pinned (OpenSpec.ofChange memberActsSpec)

/-- ITS FALSE NEIGHBOUR: 'it returns false'. Refute it at one input. -/
def memberActsWrong : ChangeSpec := { name := "memberActs", fn := fun _ => fun
  | [d1, d2, d3] => { results := [.lit (.bool false)], args := [d1, d2, d3] }
  | _ => none }
def MemberActsWrongFalsely : Prop := memberActsRow.holds Try.pinned (OpenSpec.ofChange memberActsWrong)

/-- 'weighlocklaw29.MemberNil': WHATEVER THE INPUT: true; the input reads as it did. -/
def memberNilSpec : ChangeSpec := { name := "memberNil", fn := fun _ => fun
  | [d] => { results := [.lit (.bool true)], args := [d] }
  | _ => none }
def memberNilRow : OpenClaim := { program := "ytohhlkabejangaa", sum := "f1b45831cb36ff5062ab7e4c5e530def08dc687afdbc06319be57361f7fd32a9", func := "weighlock/weighlocklaw29.MemberNil", spec := "memberNil", unfollowed := true, recurses := true, plainKeys := false, apart := false }
def MemberNilSaid : Prop := memberNilRow.holds Try.pinned (OpenSpec.ofChange memberNilSpec)

/-- ITS FALSE NEIGHBOUR: 'it returns false'. Refute it at one input. -/
def memberNilWrong : ChangeSpec := { name := "memberNil", fn := fun _ => fun
  | [d] => { results := [.lit (.bool false)], args := [d] }
  | _ => none }
def MemberNilWrongFalsely : Prop := memberNilRow.holds Try.pinned (OpenSpec.ofChange memberNilWrong)

/-- 'weighlocklaw29.MemberParts': WHATEVER THE INPUT: true; the input reads as it did. -/
def memberPartsSpec : ChangeSpec := { name := "memberParts", fn := fun _ => fun
  | [d1, d2, d3] => { results := [.lit (.bool true)], args := [d1, d2, d3] }
  | _ => none }
def memberPartsRow : OpenClaim := { program := "ytohhlkabejangaa", sum := "f1b45831cb36ff5062ab7e4c5e530def08dc687afdbc06319be57361f7fd32a9", func := "weighlock/weighlocklaw29.MemberParts", spec := "memberParts", unfollowed := true, recurses := true, plainKeys := false, apart := false }
def MemberPartsSaid : Prop := memberPartsRow.holds Try.pinned (OpenSpec.ofChange memberPartsSpec)

/-- ITS FALSE NEIGHBOUR: 'it returns false'. Refute it at one input. -/
def memberPartsWrong : ChangeSpec := { name := "memberParts", fn := fun _ => fun
  | [d1, d2, d3] => { results := [.lit (.bool false)], args := [d1, d2, d3] }
  | _ => none }
def MemberPartsWrongFalsely : Prop := memberPartsRow.holds Try.pinned (OpenSpec.ofChange memberPartsWrong)

/-- 'weighlocklaw24.OffsetsApart': WHATEVER THE INPUT: true; the input reads as it did. -/
def offsetsApartSpec : ChangeSpec := { name := "offsetsApart", fn := fun _ => fun
  | [d1, d2, d3] => { results := [.lit (.bool true)], args := [d1, d2, d3] }
  | _ => none }
def offsetsApartRow : OpenClaim := { program := "ytohhlkabejangaa", sum := "f1b45831cb36ff5062ab7e4c5e530def08dc687afdbc06319be57361f7fd32a9", func := "weighlock/weighlocklaw24.OffsetsApart", spec := "offsetsApart", unfollowed := true, recurses := true, plainKeys := false, apart := false }
def OffsetsApartSaid : Prop := offsetsApartRow.holds Try.pinned (OpenSpec.ofChange offsetsApartSpec)

/-- ITS FALSE NEIGHBOUR: 'it returns false'. Refute it at one input. -/
def offsetsApartWrong : ChangeSpec := { name := "offsetsApart", fn := fun _ => fun
  | [d1, d2, d3] => { results := [.lit (.bool false)], args := [d1, d2, d3] }
  | _ => none }
def OffsetsApartWrongFalsely : Prop := offsetsApartRow.holds Try.pinned (OpenSpec.ofChange offsetsApartWrong)

/-- 'weighlocklaw24.OffsetsActs': WHATEVER THE INPUT: true; the input reads as it did. -/
def offsetsActsSpec : ChangeSpec := { name := "offsetsActs", fn := fun _ => fun
  | [d1, d2] => { results := [.lit (.bool true)], args := [d1, d2] }
  | _ => none }
def offsetsActsRow : OpenClaim := { program := "ytohhlkabejangaa", sum := "f1b45831cb36ff5062ab7e4c5e530def08dc687afdbc06319be57361f7fd32a9", func := "weighlock/weighlocklaw24.OffsetsActs", spec := "offsetsActs", unfollowed := true, recurses := true, plainKeys := false, apart := false }
def OffsetsActsSaid : Prop := offsetsActsRow.holds Try.pinned (OpenSpec.ofChange offsetsActsSpec)

/-- ITS FALSE NEIGHBOUR: 'it returns false'. Refute it at one input. -/
def offsetsActsWrong : ChangeSpec := { name := "offsetsActs", fn := fun _ => fun
  | [d1, d2] => { results := [.lit (.bool false)], args := [d1, d2] }
  | _ => none }
def OffsetsActsWrongFalsely : Prop := offsetsActsRow.holds Try.pinned (OpenSpec.ofChange offsetsActsWrong)

/-- 'weighlocklaw24.OffsetsNil': WHATEVER THE INPUT: true; the input reads as it did. -/
def offsetsNilSpec : ChangeSpec := { name := "offsetsNil", fn := fun _ => fun
  | [d] => { results := [.lit (.bool true)], args := [d] }
  | _ => none }
def offsetsNilRow : OpenClaim := { program := "ytohhlkabejangaa", sum := "f1b45831cb36ff5062ab7e4c5e530def08dc687afdbc06319be57361f7fd32a9", func := "weighlock/weighlocklaw24.OffsetsNil", spec := "offsetsNil", unfollowed := true, recurses := true, plainKeys := false, apart := false }
def OffsetsNilSaid : Prop := offsetsNilRow.holds Try.pinned (OpenSpec.ofChange offsetsNilSpec)

/-- ITS FALSE NEIGHBOUR: 'it returns false'. Refute it at one input. -/
def offsetsNilWrong : ChangeSpec := { name := "offsetsNil", fn := fun _ => fun
  | [d] => { results := [.lit (.bool false)], args := [d] }
  | _ => none }
def OffsetsNilWrongFalsely : Prop := offsetsNilRow.holds Try.pinned (OpenSpec.ofChange offsetsNilWrong)

/-- 'weighlocklaw30.GroupsActs': WHATEVER THE INPUT: true; the input reads as it did. -/
def groupsActsSpec : ChangeSpec := { name := "groupsActs", fn := fun _ => fun
  | [d1, d2] => { results := [.lit (.bool true)], args := [d1, d2] }
  | _ => none }
def groupsActsRow : OpenClaim := { program := "ytohhlkabejangaa", sum := "f1b45831cb36ff5062ab7e4c5e530def08dc687afdbc06319be57361f7fd32a9", func := "weighlock/weighlocklaw30.GroupsActs", spec := "groupsActs", unfollowed := true, recurses := true, plainKeys := false, apart := false }
def GroupsActsSaid : Prop := groupsActsRow.holds Try.pinned (OpenSpec.ofChange groupsActsSpec)

/-- ITS FALSE NEIGHBOUR: 'it returns false'. Refute it at one input. -/
def groupsActsWrong : ChangeSpec := { name := "groupsActs", fn := fun _ => fun
  | [d1, d2] => { results := [.lit (.bool false)], args := [d1, d2] }
  | _ => none }
def GroupsActsWrongFalsely : Prop := groupsActsRow.holds Try.pinned (OpenSpec.ofChange groupsActsWrong)

/-- 'weighlocklaw30.GroupsOwn': WHATEVER THE INPUT: true; the input reads as it did. -/
def groupsOwnSpec : ChangeSpec := { name := "groupsOwn", fn := fun _ => fun
  | [d1, d2] => { results := [.lit (.bool true)], args := [d1, d2] }
  | _ => none }
def groupsOwnRow : OpenClaim := { program := "ytohhlkabejangaa", sum := "f1b45831cb36ff5062ab7e4c5e530def08dc687afdbc06319be57361f7fd32a9", func := "weighlock/weighlocklaw30.GroupsOwn", spec := "groupsOwn", unfollowed := true, recurses := true, plainKeys := false, apart := false }
def GroupsOwnSaid : Prop := groupsOwnRow.holds Try.pinned (OpenSpec.ofChange groupsOwnSpec)

/-- ITS FALSE NEIGHBOUR: 'it returns false'. Refute it at one input. -/
def groupsOwnWrong : ChangeSpec := { name := "groupsOwn", fn := fun _ => fun
  | [d1, d2] => { results := [.lit (.bool false)], args := [d1, d2] }
  | _ => none }
def GroupsOwnWrongFalsely : Prop := groupsOwnRow.holds Try.pinned (OpenSpec.ofChange groupsOwnWrong)

/-- 'weighlocklaw30.GroupsApart': WHATEVER THE INPUT: true; the input reads as it did. -/
def groupsApartSpec : ChangeSpec := { name := "groupsApart", fn := fun _ => fun
  | [d1, d2, d3] => { results := [.lit (.bool true)], args := [d1, d2, d3] }
  | _ => none }
def groupsApartRow : OpenClaim := { program := "ytohhlkabejangaa", sum := "f1b45831cb36ff5062ab7e4c5e530def08dc687afdbc06319be57361f7fd32a9", func := "weighlock/weighlocklaw30.GroupsApart", spec := "groupsApart", unfollowed := true, recurses := true, plainKeys := false, apart := false }
def GroupsApartSaid : Prop := groupsApartRow.holds Try.pinned (OpenSpec.ofChange groupsApartSpec)

/-- ITS FALSE NEIGHBOUR: 'it returns false'. Refute it at one input. -/
def groupsApartWrong : ChangeSpec := { name := "groupsApart", fn := fun _ => fun
  | [d1, d2, d3] => { results := [.lit (.bool false)], args := [d1, d2, d3] }
  | _ => none }
def GroupsApartWrongFalsely : Prop := groupsApartRow.holds Try.pinned (OpenSpec.ofChange groupsApartWrong)

/-- 'weighlocklaw30.GroupsNil': WHATEVER THE INPUT: true; the input reads as it did. -/
def groupsNilSpec : ChangeSpec := { name := "groupsNil", fn := fun _ => fun
  | [d] => { results := [.lit (.bool true)], args := [d] }
  | _ => none }
def groupsNilRow : OpenClaim := { program := "ytohhlkabejangaa", sum := "f1b45831cb36ff5062ab7e4c5e530def08dc687afdbc06319be57361f7fd32a9", func := "weighlock/weighlocklaw30.GroupsNil", spec := "groupsNil", unfollowed := true, recurses := true, plainKeys := false, apart := false }
def GroupsNilSaid : Prop := groupsNilRow.holds Try.pinned (OpenSpec.ofChange groupsNilSpec)

/-- ITS FALSE NEIGHBOUR: 'it returns false'. Refute it at one input. -/
def groupsNilWrong : ChangeSpec := { name := "groupsNil", fn := fun _ => fun
  | [d] => { results := [.lit (.bool false)], args := [d] }
  | _ => none }
def GroupsNilWrongFalsely : Prop := groupsNilRow.holds Try.pinned (OpenSpec.ofChange groupsNilWrong)

/- THE SECOND FORM. 'bulk': how many values and letters a reading holds, each counted each time it is reached (what is shared counts as often as it is met; a slice's spare places count too). A statement '..UptoSaid' is the law's where the arguments, and the package variables that the reading takes, are together of bulk at most 1048576: NARROWER than '..Said'. Prove '..Said' where nothing that the law and all that it calls make is longer than what came in: it says more and counts as full. Else prove '..UptoSaid'. A law counts once. -/
mutual
def uptoBulk {H : Type} : DataW H → Nat
  | .lit (.string bytes) => bytes.length + 1
  | .lit _ => 1
  | .nil => 1
  | .ptr d => uptoBulk d + 1
  | .slice elems spare => uptoBulkAll elems + uptoBulkAll spare + 1
  | .agg parts => uptoBulkAll parts + 1
  | .iface _ d => uptoBulk d + 1
  | .map entries => uptoBulkEntries entries + 1
  | .held _ => 1
def uptoBulkAll {H : Type} : List (DataW H) → Nat
  | [] => 0
  | d :: r => uptoBulk d + uptoBulkAll r
def uptoBulkEntries {H : Type} : List (Lit × DataW H) → Nat
  | [] => 0
  | x :: r => uptoBulkEntry x + uptoBulkEntries r
def uptoBulkEntry {H : Type} : Lit × DataW H → Nat
  | (.string bytes, d) => bytes.length + uptoBulk d + 1
  | (_, d) => uptoBulk d + 1
 end
def uptoSmall : (H : Type) → List (DataW H) → Bool := fun _ ds => decide (uptoBulkAll ds ≤ 1048576)
def OpenSpec.upto (s : _root_.Go.ChangeSpec) : _root_.Go.OpenSpec := { _root_.Go.OpenSpec.ofChange s with cond := some uptoSmall }

/-- 'weighlocklaw28.AssignRanges', WHERE WHAT IT READS IS OF BULK AT MOST 1048576: true; the input reads as it did. -/
def assignRangesUptoRow : OpenClaim := { program := "ytohhlkabejangaa", sum := "f1b45831cb36ff5062ab7e4c5e530def08dc687afdbc06319be57361f7fd32a9", func := "weighlock/weighlocklaw28.AssignRanges", spec := "assignRanges", unfollowed := true, recurses := true, plainKeys := false, apart := false, narrowed := true }
def AssignRangesUptoSaid : Prop := assignRangesUptoRow.holds Try.pinned (OpenSpec.upto assignRangesSpec)

/-- 'weighlocklaw28.AssignParts', WHERE WHAT IT READS IS OF BULK AT MOST 1048576: true; the input reads as it did. -/
def assignPartsUptoRow : OpenClaim := { program := "ytohhlkabejangaa", sum := "f1b45831cb36ff5062ab7e4c5e530def08dc687afdbc06319be57361f7fd32a9", func := "weighlock/weighlocklaw28.AssignParts", spec := "assignParts", unfollowed := true, recurses := true, plainKeys := false, apart := false, narrowed := true }
def AssignPartsUptoSaid : Prop := assignPartsUptoRow.holds Try.pinned (OpenSpec.upto assignPartsSpec)

/-- 'weighlocklaw28.AssignTurned', WHERE WHAT IT READS IS OF BULK AT MOST 1048576: true; the input reads as it did. -/
def assignTurnedUptoRow : OpenClaim := { program := "ytohhlkabejangaa", sum := "f1b45831cb36ff5062ab7e4c5e530def08dc687afdbc06319be57361f7fd32a9", func := "weighlock/weighlocklaw28.AssignTurned", spec := "assignTurned", unfollowed := true, recurses := true, plainKeys := false, apart := false, narrowed := true }
def AssignTurnedUptoSaid : Prop := assignTurnedUptoRow.holds Try.pinned (OpenSpec.upto assignTurnedSpec)

/-- 'weighlocklaw29.MemberActs', WHERE WHAT IT READS IS OF BULK AT MOST 1048576: true; the input reads as it did. -/
def memberActsUptoRow : OpenClaim := { program := "ytohhlkabejangaa", sum := "f1b45831cb36ff5062ab7e4c5e530def08dc687afdbc06319be57361f7fd32a9", func := "weighlock/weighlocklaw29.MemberActs", spec := "memberActs", unfollowed := true, recurses := true, plainKeys := false, apart := false, narrowed := true }
def MemberActsUptoSaid : Prop := memberActsUptoRow.holds Try.pinned (OpenSpec.upto memberActsSpec)

/-- 'weighlocklaw29.MemberNil', WHERE WHAT IT READS IS OF BULK AT MOST 1048576: true; the input reads as it did. -/
def memberNilUptoRow : OpenClaim := { program := "ytohhlkabejangaa", sum := "f1b45831cb36ff5062ab7e4c5e530def08dc687afdbc06319be57361f7fd32a9", func := "weighlock/weighlocklaw29.MemberNil", spec := "memberNil", unfollowed := true, recurses := true, plainKeys := false, apart := false, narrowed := true }
def MemberNilUptoSaid : Prop := memberNilUptoRow.holds Try.pinned (OpenSpec.upto memberNilSpec)

/-- 'weighlocklaw29.MemberParts', WHERE WHAT IT READS IS OF BULK AT MOST 1048576: true; the input reads as it did. -/
def memberPartsUptoRow : OpenClaim := { program := "ytohhlkabejangaa", sum := "f1b45831cb36ff5062ab7e4c5e530def08dc687afdbc06319be57361f7fd32a9", func := "weighlock/weighlocklaw29.MemberParts", spec := "memberParts", unfollowed := true, recurses := true, plainKeys := false, apart := false, narrowed := true }
def MemberPartsUptoSaid : Prop := memberPartsUptoRow.holds Try.pinned (OpenSpec.upto memberPartsSpec)

/-- 'weighlocklaw24.OffsetsApart', WHERE WHAT IT READS IS OF BULK AT MOST 1048576: true; the input reads as it did. -/
def offsetsApartUptoRow : OpenClaim := { program := "ytohhlkabejangaa", sum := "f1b45831cb36ff5062ab7e4c5e530def08dc687afdbc06319be57361f7fd32a9", func := "weighlock/weighlocklaw24.OffsetsApart", spec := "offsetsApart", unfollowed := true, recurses := true, plainKeys := false, apart := false, narrowed := true }
def OffsetsApartUptoSaid : Prop := offsetsApartUptoRow.holds Try.pinned (OpenSpec.upto offsetsApartSpec)

/-- 'weighlocklaw24.OffsetsActs', WHERE WHAT IT READS IS OF BULK AT MOST 1048576: true; the input reads as it did. -/
def offsetsActsUptoRow : OpenClaim := { program := "ytohhlkabejangaa", sum := "f1b45831cb36ff5062ab7e4c5e530def08dc687afdbc06319be57361f7fd32a9", func := "weighlock/weighlocklaw24.OffsetsActs", spec := "offsetsActs", unfollowed := true, recurses := true, plainKeys := false, apart := false, narrowed := true }
def OffsetsActsUptoSaid : Prop := offsetsActsUptoRow.holds Try.pinned (OpenSpec.upto offsetsActsSpec)

/-- 'weighlocklaw24.OffsetsNil', WHERE WHAT IT READS IS OF BULK AT MOST 1048576: true; the input reads as it did. -/
def offsetsNilUptoRow : OpenClaim := { program := "ytohhlkabejangaa", sum := "f1b45831cb36ff5062ab7e4c5e530def08dc687afdbc06319be57361f7fd32a9", func := "weighlock/weighlocklaw24.OffsetsNil", spec := "offsetsNil", unfollowed := true, recurses := true, plainKeys := false, apart := false, narrowed := true }
def OffsetsNilUptoSaid : Prop := offsetsNilUptoRow.holds Try.pinned (OpenSpec.upto offsetsNilSpec)

/-- 'weighlocklaw30.GroupsActs', WHERE WHAT IT READS IS OF BULK AT MOST 1048576: true; the input reads as it did. -/
def groupsActsUptoRow : OpenClaim := { program := "ytohhlkabejangaa", sum := "f1b45831cb36ff5062ab7e4c5e530def08dc687afdbc06319be57361f7fd32a9", func := "weighlock/weighlocklaw30.GroupsActs", spec := "groupsActs", unfollowed := true, recurses := true, plainKeys := false, apart := false, narrowed := true }
def GroupsActsUptoSaid : Prop := groupsActsUptoRow.holds Try.pinned (OpenSpec.upto groupsActsSpec)

/-- 'weighlocklaw30.GroupsOwn', WHERE WHAT IT READS IS OF BULK AT MOST 1048576: true; the input reads as it did. -/
def groupsOwnUptoRow : OpenClaim := { program := "ytohhlkabejangaa", sum := "f1b45831cb36ff5062ab7e4c5e530def08dc687afdbc06319be57361f7fd32a9", func := "weighlock/weighlocklaw30.GroupsOwn", spec := "groupsOwn", unfollowed := true, recurses := true, plainKeys := false, apart := false, narrowed := true }
def GroupsOwnUptoSaid : Prop := groupsOwnUptoRow.holds Try.pinned (OpenSpec.upto groupsOwnSpec)

/-- 'weighlocklaw30.GroupsApart', WHERE WHAT IT READS IS OF BULK AT MOST 1048576: true; the input reads as it did. -/
def groupsApartUptoRow : OpenClaim := { program := "ytohhlkabejangaa", sum := "f1b45831cb36ff5062ab7e4c5e530def08dc687afdbc06319be57361f7fd32a9", func := "weighlock/weighlocklaw30.GroupsApart", spec := "groupsApart", unfollowed := true, recurses := true, plainKeys := false, apart := false, narrowed := true }
def GroupsApartUptoSaid : Prop := groupsApartUptoRow.holds Try.pinned (OpenSpec.upto groupsApartSpec)

/-- 'weighlocklaw30.GroupsNil', WHERE WHAT IT READS IS OF BULK AT MOST 1048576: true; the input reads as it did. -/
def groupsNilUptoRow : OpenClaim := { program := "ytohhlkabejangaa", sum := "f1b45831cb36ff5062ab7e4c5e530def08dc687afdbc06319be57361f7fd32a9", func := "weighlock/weighlocklaw30.GroupsNil", spec := "groupsNil", unfollowed := true, recurses := true, plainKeys := false, apart := false, narrowed := true }
def GroupsNilUptoSaid : Prop := groupsNilUptoRow.holds Try.pinned (OpenSpec.upto groupsNilSpec)

end Rows
end Go.Proofs.Ytohhlkabejangaa
