/-
  No cell of these rows narrows 'for every input' (looked for: loops, veiled, ifaces, maps, wideKeys, modest, calm, conditions, laid).
  DERIVED. THE GIVEN ROWS OF THIS SEAT. 10 by the template 'for every input the law returns true; each argument reads behind the call as it read before'; 0 by the template 'total and deterministic' (their statements: YtbpdgpaoibcilaaTotals.lean).
  GIVEN WITH THE SEED: the statements are not yours to turn. If you find one false, say at which input.
  Laid BY PROGRAM, IN A SANDBOX (cutbox-rows.mjs): the forced cells as the released guide's own fill.sh prints them over the translation 9ded8d726be657d8… (all of the seat's roots in one cut). By AI agents, Wed Nov 11 2026. No macro, syntax, notation, axiom, sorry.
-/
import Derived.Test.YtbpdgpaoibcilaaChecked
import GoSem.Claim
import GoSem.ClaimJoined
import GoSem.ClaimMapViews
import Derived.JoinedTies
import Derived.KernelRfl
namespace Go.Proofs.Ytbpdgpaoibcilaa
/- THE CELL 'sum', in the pinned program and in every row, IS THE sha256 OF THE DUMP (.gsa) THAT YtbpdgpaoibcilaaProg.lean LOADS. Nothing in Lean hashes anything: it is a label: what it is worth is what the hold of that sum in a sandbox is worth. -/
noncomputable def Try.pinned : Pinned := { name := "ytbpdgpaoibcilaa", sum := "9ded8d726be657d8f5ab63465966af1d58478d4d01c57dd33e838f173fc42a61", checked := Try.checked }
namespace Rows
def none {H : Type} : Left H := { results := [], args := [] }

/-- 'weighlocklaw06.LayoutNews': WHATEVER THE INPUT: true; the input reads as it did. -/
def layoutNewsSpec : ChangeSpec := { name := "layoutNews", fn := fun _ => fun
  | [d] => { results := [.lit (.bool true)], args := [d] }
  | _ => none }
def layoutNewsRow : OpenClaim := { program := "ytbpdgpaoibcilaa", sum := "9ded8d726be657d8f5ab63465966af1d58478d4d01c57dd33e838f173fc42a61", func := "weighlock/weighlocklaw06.LayoutNews", spec := "layoutNews", apart := false }
def LayoutNewsSaid : Prop := layoutNewsRow.holds Try.pinned (OpenSpec.ofChange layoutNewsSpec)

/-- ITS FALSE NEIGHBOUR: 'it returns false'. Refute it at one input. -/
def layoutNewsWrong : ChangeSpec := { name := "layoutNews", fn := fun _ => fun
  | [d] => { results := [.lit (.bool false)], args := [d] }
  | _ => none }
def LayoutNewsWrongFalsely : Prop := layoutNewsRow.holds Try.pinned (OpenSpec.ofChange layoutNewsWrong)

/-- 'weighlocklaw01.NumsChains': WHATEVER THE INPUT: true; the input reads as it did. -/
def numsChainsSpec : ChangeSpec := { name := "numsChains", fn := fun _ => fun
  | [d1, d2] => { results := [.lit (.bool true)], args := [d1, d2] }
  | _ => none }
def numsChainsRow : OpenClaim := { program := "ytbpdgpaoibcilaa", sum := "9ded8d726be657d8f5ab63465966af1d58478d4d01c57dd33e838f173fc42a61", func := "weighlock/weighlocklaw01.NumsChains", spec := "numsChains", recurses := true, apart := false }
def NumsChainsSaid : Prop := numsChainsRow.holds Try.pinned (OpenSpec.ofChange numsChainsSpec)

/-- ITS FALSE NEIGHBOUR: 'it returns false'. Refute it at one input. -/
def numsChainsWrong : ChangeSpec := { name := "numsChains", fn := fun _ => fun
  | [d1, d2] => { results := [.lit (.bool false)], args := [d1, d2] }
  | _ => none }
def NumsChainsWrongFalsely : Prop := numsChainsRow.holds Try.pinned (OpenSpec.ofChange numsChainsWrong)

/-- 'weighlocklaw01.NumsUnchains': WHATEVER THE INPUT: true; the input reads as it did. -/
def numsUnchainsSpec : ChangeSpec := { name := "numsUnchains", fn := fun _ => fun
  | [d] => { results := [.lit (.bool true)], args := [d] }
  | _ => none }
def numsUnchainsRow : OpenClaim := { program := "ytbpdgpaoibcilaa", sum := "9ded8d726be657d8f5ab63465966af1d58478d4d01c57dd33e838f173fc42a61", func := "weighlock/weighlocklaw01.NumsUnchains", spec := "numsUnchains", apart := false }
def NumsUnchainsSaid : Prop := numsUnchainsRow.holds Try.pinned (OpenSpec.ofChange numsUnchainsSpec)

/-- ITS FALSE NEIGHBOUR: 'it returns false'. Refute it at one input. -/
def numsUnchainsWrong : ChangeSpec := { name := "numsUnchains", fn := fun _ => fun
  | [d] => { results := [.lit (.bool false)], args := [d] }
  | _ => none }
def NumsUnchainsWrongFalsely : Prop := numsUnchainsRow.holds Try.pinned (OpenSpec.ofChange numsUnchainsWrong)

/-- 'weighlocklaw06.LayoutOwners': WHATEVER THE INPUT: true; the input reads as it did. -/
def layoutOwnersSpec : ChangeSpec := { name := "layoutOwners", fn := fun _ => fun
  | [d1, d2, d3] => { results := [.lit (.bool true)], args := [d1, d2, d3] }
  | _ => none }
def layoutOwnersRow : OpenClaim := { program := "ytbpdgpaoibcilaa", sum := "9ded8d726be657d8f5ab63465966af1d58478d4d01c57dd33e838f173fc42a61", func := "weighlock/weighlocklaw06.LayoutOwners", spec := "layoutOwners", apart := false }
def LayoutOwnersSaid : Prop := layoutOwnersRow.holds Try.pinned (OpenSpec.ofChange layoutOwnersSpec)

/-- ITS FALSE NEIGHBOUR: 'it returns false'. Refute it at one input. -/
def layoutOwnersWrong : ChangeSpec := { name := "layoutOwners", fn := fun _ => fun
  | [d1, d2, d3] => { results := [.lit (.bool false)], args := [d1, d2, d3] }
  | _ => none }
def LayoutOwnersWrongFalsely : Prop := layoutOwnersRow.holds Try.pinned (OpenSpec.ofChange layoutOwnersWrong)

/-- 'weighlocklaw06.LayoutParts': WHATEVER THE INPUT: true; the input reads as it did. -/
def layoutPartsSpec : ChangeSpec := { name := "layoutParts", fn := fun _ => fun
  | [d] => { results := [.lit (.bool true)], args := [d] }
  | _ => none }
def layoutPartsRow : OpenClaim := { program := "ytbpdgpaoibcilaa", sum := "9ded8d726be657d8f5ab63465966af1d58478d4d01c57dd33e838f173fc42a61", func := "weighlock/weighlocklaw06.LayoutParts", spec := "layoutParts", apart := false }
def LayoutPartsSaid : Prop := layoutPartsRow.holds Try.pinned (OpenSpec.ofChange layoutPartsSpec)

/-- ITS FALSE NEIGHBOUR: 'it returns false'. Refute it at one input. -/
def layoutPartsWrong : ChangeSpec := { name := "layoutParts", fn := fun _ => fun
  | [d] => { results := [.lit (.bool false)], args := [d] }
  | _ => none }
def LayoutPartsWrongFalsely : Prop := layoutPartsRow.holds Try.pinned (OpenSpec.ofChange layoutPartsWrong)

/-- 'weighlocklaw06.LayoutNil': WHATEVER THE INPUT: true; the input reads as it did. -/
def layoutNilSpec : ChangeSpec := { name := "layoutNil", fn := fun _ => fun
  | [d] => { results := [.lit (.bool true)], args := [d] }
  | _ => none }
def layoutNilRow : OpenClaim := { program := "ytbpdgpaoibcilaa", sum := "9ded8d726be657d8f5ab63465966af1d58478d4d01c57dd33e838f173fc42a61", func := "weighlock/weighlocklaw06.LayoutNil", spec := "layoutNil", apart := false }
def LayoutNilSaid : Prop := layoutNilRow.holds Try.pinned (OpenSpec.ofChange layoutNilSpec)

/-- ITS FALSE NEIGHBOUR: 'it returns false'. Refute it at one input. -/
def layoutNilWrong : ChangeSpec := { name := "layoutNil", fn := fun _ => fun
  | [d] => { results := [.lit (.bool false)], args := [d] }
  | _ => none }
def LayoutNilWrongFalsely : Prop := layoutNilRow.holds Try.pinned (OpenSpec.ofChange layoutNilWrong)

/-- 'weighlocklaw01.NumsFolds': WHATEVER THE INPUT: true; the input reads as it did. -/
def numsFoldsSpec : ChangeSpec := { name := "numsFolds", fn := fun _ => fun
  | [d1, d2] => { results := [.lit (.bool true)], args := [d1, d2] }
  | _ => none }
def numsFoldsRow : OpenClaim := { program := "ytbpdgpaoibcilaa", sum := "9ded8d726be657d8f5ab63465966af1d58478d4d01c57dd33e838f173fc42a61", func := "weighlock/weighlocklaw01.NumsFolds", spec := "numsFolds", apart := false }
def NumsFoldsSaid : Prop := numsFoldsRow.holds Try.pinned (OpenSpec.ofChange numsFoldsSpec)

/-- ITS FALSE NEIGHBOUR: 'it returns false'. Refute it at one input. -/
def numsFoldsWrong : ChangeSpec := { name := "numsFolds", fn := fun _ => fun
  | [d1, d2] => { results := [.lit (.bool false)], args := [d1, d2] }
  | _ => none }
def NumsFoldsWrongFalsely : Prop := numsFoldsRow.holds Try.pinned (OpenSpec.ofChange numsFoldsWrong)

/-- 'weighlocklaw01.NumsLow': WHATEVER THE INPUT: true; the input reads as it did. -/
def numsLowSpec : ChangeSpec := { name := "numsLow", fn := fun _ => fun
  | [d1, d2] => { results := [.lit (.bool true)], args := [d1, d2] }
  | _ => none }
def numsLowRow : OpenClaim := { program := "ytbpdgpaoibcilaa", sum := "9ded8d726be657d8f5ab63465966af1d58478d4d01c57dd33e838f173fc42a61", func := "weighlock/weighlocklaw01.NumsLow", spec := "numsLow", apart := false }
def NumsLowSaid : Prop := numsLowRow.holds Try.pinned (OpenSpec.ofChange numsLowSpec)

/-- ITS FALSE NEIGHBOUR: 'it returns false'. Refute it at one input. -/
def numsLowWrong : ChangeSpec := { name := "numsLow", fn := fun _ => fun
  | [d1, d2] => { results := [.lit (.bool false)], args := [d1, d2] }
  | _ => none }
def NumsLowWrongFalsely : Prop := numsLowRow.holds Try.pinned (OpenSpec.ofChange numsLowWrong)

/-- 'weighlocklaw01.NumsFixed': WHATEVER THE INPUT: true; the input reads as it did. -/
def numsFixedSpec : ChangeSpec := { name := "numsFixed", fn := fun _ => fun
  | [d1, d2, d3] => { results := [.lit (.bool true)], args := [d1, d2, d3] }
  | _ => none }
def numsFixedRow : OpenClaim := { program := "ytbpdgpaoibcilaa", sum := "9ded8d726be657d8f5ab63465966af1d58478d4d01c57dd33e838f173fc42a61", func := "weighlock/weighlocklaw01.NumsFixed", spec := "numsFixed", apart := false }
def NumsFixedSaid : Prop := numsFixedRow.holds Try.pinned (OpenSpec.ofChange numsFixedSpec)

/-- ITS FALSE NEIGHBOUR: 'it returns false'. Refute it at one input. -/
def numsFixedWrong : ChangeSpec := { name := "numsFixed", fn := fun _ => fun
  | [d1, d2, d3] => { results := [.lit (.bool false)], args := [d1, d2, d3] }
  | _ => none }
def NumsFixedWrongFalsely : Prop := numsFixedRow.holds Try.pinned (OpenSpec.ofChange numsFixedWrong)

/-- 'weighlocklaw01.NumsTexts': WHATEVER THE INPUT: true; the input reads as it did. -/
def numsTextsSpec : ChangeSpec := { name := "numsTexts", fn := fun _ => fun
  | [d1, d2] => { results := [.lit (.bool true)], args := [d1, d2] }
  | _ => none }
def numsTextsRow : OpenClaim := { program := "ytbpdgpaoibcilaa", sum := "9ded8d726be657d8f5ab63465966af1d58478d4d01c57dd33e838f173fc42a61", func := "weighlock/weighlocklaw01.NumsTexts", spec := "numsTexts", recurses := true, apart := false }
def NumsTextsSaid : Prop := numsTextsRow.holds Try.pinned (OpenSpec.ofChange numsTextsSpec)

/-- ITS FALSE NEIGHBOUR: 'it returns false'. Refute it at one input. -/
def numsTextsWrong : ChangeSpec := { name := "numsTexts", fn := fun _ => fun
  | [d1, d2] => { results := [.lit (.bool false)], args := [d1, d2] }
  | _ => none }
def NumsTextsWrongFalsely : Prop := numsTextsRow.holds Try.pinned (OpenSpec.ofChange numsTextsWrong)

/- THE SECOND FORM. 'bulk': how many values and letters a reading holds, each counted each time it is reached (what is shared counts as often as it is met; a slice's spare places count too). A statement '..UptoSaid' is the law's where the arguments, and the package variables that the reading takes, are together of bulk at most 1048576: NARROWER than '..Said'. Prove '..Said' where nothing that the law and all that it calls make is longer than what came in: it says more and counts as full. Else prove '..UptoSaid'. A law counts once. -/
mutual
def uptoBulk {H : Type} : DataW H → Nat
  | .lit (.string bytes) => bytes.length + 1
  | .lit _ => 1
  | .nil => 1
  | .ptr d => uptoBulk d + 1
  | .slice elems spare => uptoBulkAll elems + uptoBulkAll spare + 1
  | .agg parts => uptoBulkAll parts + 1
  | .iface _ d => uptoBulk d + 1
  | .map entries => uptoBulkEntries entries + 1
  | .held _ => 1
def uptoBulkAll {H : Type} : List (DataW H) → Nat
  | [] => 0
  | d :: r => uptoBulk d + uptoBulkAll r
def uptoBulkEntries {H : Type} : List (Lit × DataW H) → Nat
  | [] => 0
  | x :: r => uptoBulkEntry x + uptoBulkEntries r
def uptoBulkEntry {H : Type} : Lit × DataW H → Nat
  | (.string bytes, d) => bytes.length + uptoBulk d + 1
  | (_, d) => uptoBulk d + 1
 end
def uptoSmall : (H : Type) → List (DataW H) → Bool := fun _ ds => decide (uptoBulkAll ds ≤ 1048576)
def OpenSpec.upto (s : _root_.Go.ChangeSpec) : _root_.Go.OpenSpec := { _root_.Go.OpenSpec.ofChange s with cond := some uptoSmall }

/-- 'weighlocklaw06.LayoutNews', WHERE WHAT IT READS IS OF BULK AT MOST 1048576: true; the input reads as it did. -/
def layoutNewsUptoRow : OpenClaim := { program := "ytbpdgpaoibcilaa", sum := "9ded8d726be657d8f5ab63465966af1d58478d4d01c57dd33e838f173fc42a61", func := "weighlock/weighlocklaw06.LayoutNews", spec := "layoutNews", apart := false, narrowed := true }
def LayoutNewsUptoSaid : Prop := layoutNewsUptoRow.holds Try.pinned (OpenSpec.upto layoutNewsSpec)

/-- 'weighlocklaw01.NumsChains', WHERE WHAT IT READS IS OF BULK AT MOST 1048576: true; the input reads as it did. -/
def numsChainsUptoRow : OpenClaim := { program := "ytbpdgpaoibcilaa", sum := "9ded8d726be657d8f5ab63465966af1d58478d4d01c57dd33e838f173fc42a61", func := "weighlock/weighlocklaw01.NumsChains", spec := "numsChains", recurses := true, apart := false, narrowed := true }
def NumsChainsUptoSaid : Prop := numsChainsUptoRow.holds Try.pinned (OpenSpec.upto numsChainsSpec)

/-- 'weighlocklaw01.NumsUnchains', WHERE WHAT IT READS IS OF BULK AT MOST 1048576: true; the input reads as it did. -/
def numsUnchainsUptoRow : OpenClaim := { program := "ytbpdgpaoibcilaa", sum := "9ded8d726be657d8f5ab63465966af1d58478d4d01c57dd33e838f173fc42a61", func := "weighlock/weighlocklaw01.NumsUnchains", spec := "numsUnchains", apart := false, narrowed := true }
def NumsUnchainsUptoSaid : Prop := numsUnchainsUptoRow.holds Try.pinned (OpenSpec.upto numsUnchainsSpec)

/-- 'weighlocklaw06.LayoutOwners', WHERE WHAT IT READS IS OF BULK AT MOST 1048576: true; the input reads as it did. -/
def layoutOwnersUptoRow : OpenClaim := { program := "ytbpdgpaoibcilaa", sum := "9ded8d726be657d8f5ab63465966af1d58478d4d01c57dd33e838f173fc42a61", func := "weighlock/weighlocklaw06.LayoutOwners", spec := "layoutOwners", apart := false, narrowed := true }
def LayoutOwnersUptoSaid : Prop := layoutOwnersUptoRow.holds Try.pinned (OpenSpec.upto layoutOwnersSpec)

/-- 'weighlocklaw06.LayoutParts', WHERE WHAT IT READS IS OF BULK AT MOST 1048576: true; the input reads as it did. -/
def layoutPartsUptoRow : OpenClaim := { program := "ytbpdgpaoibcilaa", sum := "9ded8d726be657d8f5ab63465966af1d58478d4d01c57dd33e838f173fc42a61", func := "weighlock/weighlocklaw06.LayoutParts", spec := "layoutParts", apart := false, narrowed := true }
def LayoutPartsUptoSaid : Prop := layoutPartsUptoRow.holds Try.pinned (OpenSpec.upto layoutPartsSpec)

/-- 'weighlocklaw06.LayoutNil', WHERE WHAT IT READS IS OF BULK AT MOST 1048576: true; the input reads as it did. -/
def layoutNilUptoRow : OpenClaim := { program := "ytbpdgpaoibcilaa", sum := "9ded8d726be657d8f5ab63465966af1d58478d4d01c57dd33e838f173fc42a61", func := "weighlock/weighlocklaw06.LayoutNil", spec := "layoutNil", apart := false, narrowed := true }
def LayoutNilUptoSaid : Prop := layoutNilUptoRow.holds Try.pinned (OpenSpec.upto layoutNilSpec)

/-- 'weighlocklaw01.NumsFolds', WHERE WHAT IT READS IS OF BULK AT MOST 1048576: true; the input reads as it did. -/
def numsFoldsUptoRow : OpenClaim := { program := "ytbpdgpaoibcilaa", sum := "9ded8d726be657d8f5ab63465966af1d58478d4d01c57dd33e838f173fc42a61", func := "weighlock/weighlocklaw01.NumsFolds", spec := "numsFolds", apart := false, narrowed := true }
def NumsFoldsUptoSaid : Prop := numsFoldsUptoRow.holds Try.pinned (OpenSpec.upto numsFoldsSpec)

/-- 'weighlocklaw01.NumsLow', WHERE WHAT IT READS IS OF BULK AT MOST 1048576: true; the input reads as it did. -/
def numsLowUptoRow : OpenClaim := { program := "ytbpdgpaoibcilaa", sum := "9ded8d726be657d8f5ab63465966af1d58478d4d01c57dd33e838f173fc42a61", func := "weighlock/weighlocklaw01.NumsLow", spec := "numsLow", apart := false, narrowed := true }
def NumsLowUptoSaid : Prop := numsLowUptoRow.holds Try.pinned (OpenSpec.upto numsLowSpec)

/-- 'weighlocklaw01.NumsFixed', WHERE WHAT IT READS IS OF BULK AT MOST 1048576: true; the input reads as it did. -/
def numsFixedUptoRow : OpenClaim := { program := "ytbpdgpaoibcilaa", sum := "9ded8d726be657d8f5ab63465966af1d58478d4d01c57dd33e838f173fc42a61", func := "weighlock/weighlocklaw01.NumsFixed", spec := "numsFixed", apart := false, narrowed := true }
def NumsFixedUptoSaid : Prop := numsFixedUptoRow.holds Try.pinned (OpenSpec.upto numsFixedSpec)

/-- 'weighlocklaw01.NumsTexts', WHERE WHAT IT READS IS OF BULK AT MOST 1048576: true; the input reads as it did. -/
def numsTextsUptoRow : OpenClaim := { program := "ytbpdgpaoibcilaa", sum := "9ded8d726be657d8f5ab63465966af1d58478d4d01c57dd33e838f173fc42a61", func := "weighlock/weighlocklaw01.NumsTexts", spec := "numsTexts", recurses := true, apart := false, narrowed := true }
def NumsTextsUptoSaid : Prop := numsTextsUptoRow.holds Try.pinned (OpenSpec.upto numsTextsSpec)

end Rows
end Go.Proofs.Ytbpdgpaoibcilaa
