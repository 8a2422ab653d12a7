/-
  No cell of these rows narrows 'for every input' (looked for: loops, veiled, ifaces, maps, wideKeys, modest, calm, conditions, laid).
  DERIVED. THE GIVEN ROWS OF THIS SEAT. 10 by the template 'for every input the law returns true; each argument reads behind the call as it read before'; 0 by the template 'total and deterministic' (their statements: YtlgihjhlkpmpnaaTotals.lean).
  GIVEN WITH THE SEED: the statements are not yours to turn. If you find one false, say at which input.
  Laid BY PROGRAM, IN A SANDBOX (cutbox-rows.mjs): the forced cells as the released guide's own fill.sh prints them over the translation 1c6c44a0bb82ef4f… (all of the seat's roots in one cut). By AI agents, Wed Nov 11 2026. No macro, syntax, notation, axiom, sorry.
-/
import Derived.Test.YtlgihjhlkpmpnaaChecked
import GoSem.Claim
import GoSem.ClaimJoined
import GoSem.ClaimMapViews
import Derived.JoinedTies
import Derived.KernelRfl
namespace Go.Proofs.Ytlgihjhlkpmpnaa
/- THE CELL 'sum', in the pinned program and in every row, IS THE sha256 OF THE DUMP (.gsa) THAT YtlgihjhlkpmpnaaProg.lean LOADS. Nothing in Lean hashes anything: it is a label: what it is worth is what the hold of that sum in a sandbox is worth. -/
noncomputable def Try.pinned : Pinned := { name := "ytlgihjhlkpmpnaa", sum := "1c6c44a0bb82ef4fd4ed2bb719d407bf66ecfb2c3a8807cde221ad50699547c7", checked := Try.checked }
namespace Rows
def none {H : Type} : Left H := { results := [], args := [] }

/-- 'weighlocklaw36.ParserActs': WHATEVER THE INPUT: true; the input reads as it did. -/
def parserActsSpec : ChangeSpec := { name := "parserActs", fn := fun _ => fun
  | [d] => { results := [.lit (.bool true)], args := [d] }
  | _ => none }
def parserActsRow : OpenClaim := { program := "ytlgihjhlkpmpnaa", sum := "1c6c44a0bb82ef4fd4ed2bb719d407bf66ecfb2c3a8807cde221ad50699547c7", func := "weighlock/weighlocklaw36.ParserActs", spec := "parserActs", unfollowed := true, recurses := true, plainKeys := false, apart := false }
def ParserActsSaid : Prop := parserActsRow.holds Try.pinned (OpenSpec.ofChange parserActsSpec)

/-- ITS FALSE NEIGHBOUR: 'it returns false'. Refute it at one input. -/
def parserActsWrong : ChangeSpec := { name := "parserActs", fn := fun _ => fun
  | [d] => { results := [.lit (.bool false)], args := [d] }
  | _ => none }
def ParserActsWrongFalsely : Prop := parserActsRow.holds Try.pinned (OpenSpec.ofChange parserActsWrong)

/-- 'weighlocklaw36.ParserPieces': WHATEVER THE INPUT: true; the input reads as it did. -/
def parserPiecesSpec : ChangeSpec := { name := "parserPieces", fn := fun _ => fun
  | [d1, d2] => { results := [.lit (.bool true)], args := [d1, d2] }
  | _ => none }
def parserPiecesRow : OpenClaim := { program := "ytlgihjhlkpmpnaa", sum := "1c6c44a0bb82ef4fd4ed2bb719d407bf66ecfb2c3a8807cde221ad50699547c7", func := "weighlock/weighlocklaw36.ParserPieces", spec := "parserPieces", unfollowed := true, recurses := true, plainKeys := false, apart := false }
def ParserPiecesSaid : Prop := parserPiecesRow.holds Try.pinned (OpenSpec.ofChange parserPiecesSpec)

/-- ITS FALSE NEIGHBOUR: 'it returns false'. Refute it at one input. -/
def parserPiecesWrong : ChangeSpec := { name := "parserPieces", fn := fun _ => fun
  | [d1, d2] => { results := [.lit (.bool false)], args := [d1, d2] }
  | _ => none }
def ParserPiecesWrongFalsely : Prop := parserPiecesRow.holds Try.pinned (OpenSpec.ofChange parserPiecesWrong)

/-- 'weighlocklaw36.ParserNil': WHATEVER THE INPUT: true; the input reads as it did. -/
def parserNilSpec : ChangeSpec := { name := "parserNil", fn := fun _ => fun
  | [d] => { results := [.lit (.bool true)], args := [d] }
  | _ => none }
def parserNilRow : OpenClaim := { program := "ytlgihjhlkpmpnaa", sum := "1c6c44a0bb82ef4fd4ed2bb719d407bf66ecfb2c3a8807cde221ad50699547c7", func := "weighlock/weighlocklaw36.ParserNil", spec := "parserNil", unfollowed := true, recurses := true, plainKeys := false, apart := false }
def ParserNilSaid : Prop := parserNilRow.holds Try.pinned (OpenSpec.ofChange parserNilSpec)

/-- ITS FALSE NEIGHBOUR: 'it returns false'. Refute it at one input. -/
def parserNilWrong : ChangeSpec := { name := "parserNil", fn := fun _ => fun
  | [d] => { results := [.lit (.bool false)], args := [d] }
  | _ => none }
def ParserNilWrongFalsely : Prop := parserNilRow.holds Try.pinned (OpenSpec.ofChange parserNilWrong)

/-- 'weighlocklaw34.WireDecodes': WHATEVER THE INPUT: true; the input reads as it did. -/
def wireDecodesSpec : ChangeSpec := { name := "wireDecodes", fn := fun _ => fun
  | [d] => { results := [.lit (.bool true)], args := [d] }
  | _ => none }
def wireDecodesRow : OpenClaim := { program := "ytlgihjhlkpmpnaa", sum := "1c6c44a0bb82ef4fd4ed2bb719d407bf66ecfb2c3a8807cde221ad50699547c7", func := "weighlock/weighlocklaw34.WireDecodes", spec := "wireDecodes", plainKeys := false, apart := false }
def WireDecodesSaid : Prop := wireDecodesRow.holds Try.pinned (OpenSpec.ofChange wireDecodesSpec)

/-- ITS FALSE NEIGHBOUR: 'it returns false'. Refute it at one input. -/
def wireDecodesWrong : ChangeSpec := { name := "wireDecodes", fn := fun _ => fun
  | [d] => { results := [.lit (.bool false)], args := [d] }
  | _ => none }
def WireDecodesWrongFalsely : Prop := wireDecodesRow.holds Try.pinned (OpenSpec.ofChange wireDecodesWrong)

/-- 'weighlocklaw34.WirePeeks': WHATEVER THE INPUT: true; the input reads as it did. -/
def wirePeeksSpec : ChangeSpec := { name := "wirePeeks", fn := fun _ => fun
  | [d] => { results := [.lit (.bool true)], args := [d] }
  | _ => none }
def wirePeeksRow : OpenClaim := { program := "ytlgihjhlkpmpnaa", sum := "1c6c44a0bb82ef4fd4ed2bb719d407bf66ecfb2c3a8807cde221ad50699547c7", func := "weighlock/weighlocklaw34.WirePeeks", spec := "wirePeeks", recurses := true, plainKeys := false, apart := false }
def WirePeeksSaid : Prop := wirePeeksRow.holds Try.pinned (OpenSpec.ofChange wirePeeksSpec)

/-- ITS FALSE NEIGHBOUR: 'it returns false'. Refute it at one input. -/
def wirePeeksWrong : ChangeSpec := { name := "wirePeeks", fn := fun _ => fun
  | [d] => { results := [.lit (.bool false)], args := [d] }
  | _ => none }
def WirePeeksWrongFalsely : Prop := wirePeeksRow.holds Try.pinned (OpenSpec.ofChange wirePeeksWrong)

/-- 'weighlocklaw34.WireEncodes': WHATEVER THE INPUT: true; the input reads as it did. -/
def wireEncodesSpec : ChangeSpec := { name := "wireEncodes", fn := fun _ => fun
  | [d1, d2] => { results := [.lit (.bool true)], args := [d1, d2] }
  | _ => none }
def wireEncodesRow : OpenClaim := { program := "ytlgihjhlkpmpnaa", sum := "1c6c44a0bb82ef4fd4ed2bb719d407bf66ecfb2c3a8807cde221ad50699547c7", func := "weighlock/weighlocklaw34.WireEncodes", spec := "wireEncodes", recurses := true, plainKeys := false, apart := false }
def WireEncodesSaid : Prop := wireEncodesRow.holds Try.pinned (OpenSpec.ofChange wireEncodesSpec)

/-- ITS FALSE NEIGHBOUR: 'it returns false'. Refute it at one input. -/
def wireEncodesWrong : ChangeSpec := { name := "wireEncodes", fn := fun _ => fun
  | [d1, d2] => { results := [.lit (.bool false)], args := [d1, d2] }
  | _ => none }
def WireEncodesWrongFalsely : Prop := wireEncodesRow.holds Try.pinned (OpenSpec.ofChange wireEncodesWrong)

/-- 'weighlocklaw39.SessionPieces': WHATEVER THE INPUT: true; the input reads as it did. -/
def sessionPiecesSpec : ChangeSpec := { name := "sessionPieces", fn := fun _ => fun
  | [d1, d2] => { results := [.lit (.bool true)], args := [d1, d2] }
  | _ => none }
def sessionPiecesRow : OpenClaim := { program := "ytlgihjhlkpmpnaa", sum := "1c6c44a0bb82ef4fd4ed2bb719d407bf66ecfb2c3a8807cde221ad50699547c7", func := "weighlock/weighlocklaw39.SessionPieces", spec := "sessionPieces", unfollowed := true, recurses := true, plainKeys := false, apart := false }
def SessionPiecesSaid : Prop := sessionPiecesRow.holds Try.pinned (OpenSpec.ofChange sessionPiecesSpec)

/-- ITS FALSE NEIGHBOUR: 'it returns false'. Refute it at one input. -/
def sessionPiecesWrong : ChangeSpec := { name := "sessionPieces", fn := fun _ => fun
  | [d1, d2] => { results := [.lit (.bool false)], args := [d1, d2] }
  | _ => none }
def SessionPiecesWrongFalsely : Prop := sessionPiecesRow.holds Try.pinned (OpenSpec.ofChange sessionPiecesWrong)

/-- 'weighlocklaw39.SessionActs': WHATEVER THE INPUT: true; the input reads as it did. -/
def sessionActsSpec : ChangeSpec := { name := "sessionActs", fn := fun _ => fun
  | [d1, d2] => { results := [.lit (.bool true)], args := [d1, d2] }
  | _ => none }
def sessionActsRow : OpenClaim := { program := "ytlgihjhlkpmpnaa", sum := "1c6c44a0bb82ef4fd4ed2bb719d407bf66ecfb2c3a8807cde221ad50699547c7", func := "weighlock/weighlocklaw39.SessionActs", spec := "sessionActs", unfollowed := true, recurses := true, plainKeys := false, apart := false }
def SessionActsSaid : Prop := sessionActsRow.holds Try.pinned (OpenSpec.ofChange sessionActsSpec)

/-- ITS FALSE NEIGHBOUR: 'it returns false'. Refute it at one input. -/
def sessionActsWrong : ChangeSpec := { name := "sessionActs", fn := fun _ => fun
  | [d1, d2] => { results := [.lit (.bool false)], args := [d1, d2] }
  | _ => none }
def SessionActsWrongFalsely : Prop := sessionActsRow.holds Try.pinned (OpenSpec.ofChange sessionActsWrong)

/-- 'weighlocklaw39.SessionApart': WHATEVER THE INPUT: true; the input reads as it did. -/
def sessionApartSpec : ChangeSpec := { name := "sessionApart", fn := fun _ => fun
  | [d1, d2, d3] => { results := [.lit (.bool true)], args := [d1, d2, d3] }
  | _ => none }
def sessionApartRow : OpenClaim := { program := "ytlgihjhlkpmpnaa", sum := "1c6c44a0bb82ef4fd4ed2bb719d407bf66ecfb2c3a8807cde221ad50699547c7", func := "weighlock/weighlocklaw39.SessionApart", spec := "sessionApart", unfollowed := true, recurses := true, plainKeys := false, apart := false }
def SessionApartSaid : Prop := sessionApartRow.holds Try.pinned (OpenSpec.ofChange sessionApartSpec)

/-- ITS FALSE NEIGHBOUR: 'it returns false'. Refute it at one input. -/
def sessionApartWrong : ChangeSpec := { name := "sessionApart", fn := fun _ => fun
  | [d1, d2, d3] => { results := [.lit (.bool false)], args := [d1, d2, d3] }
  | _ => none }
def SessionApartWrongFalsely : Prop := sessionApartRow.holds Try.pinned (OpenSpec.ofChange sessionApartWrong)

/-- 'weighlocklaw39.SessionNil': WHATEVER THE INPUT: true; the input reads as it did. -/
def sessionNilSpec : ChangeSpec := { name := "sessionNil", fn := fun _ => fun
  | [d] => { results := [.lit (.bool true)], args := [d] }
  | _ => none }
def sessionNilRow : OpenClaim := { program := "ytlgihjhlkpmpnaa", sum := "1c6c44a0bb82ef4fd4ed2bb719d407bf66ecfb2c3a8807cde221ad50699547c7", func := "weighlock/weighlocklaw39.SessionNil", spec := "sessionNil", unfollowed := true, recurses := true, plainKeys := false, apart := false }
def SessionNilSaid : Prop := sessionNilRow.holds Try.pinned (OpenSpec.ofChange sessionNilSpec)

/-- ITS FALSE NEIGHBOUR: 'it returns false'. Refute it at one input. -/
def sessionNilWrong : ChangeSpec := { name := "sessionNil", fn := fun _ => fun
  | [d] => { results := [.lit (.bool false)], args := [d] }
  | _ => none }
def SessionNilWrongFalsely : Prop := sessionNilRow.holds Try.pinned (OpenSpec.ofChange sessionNilWrong)

/- THE SECOND FORM. 'bulk': how many values and letters a reading holds, each counted each time it is reached (what is shared counts as often as it is met; a slice's spare places count too). A statement '..UptoSaid' is the law's where the arguments, and the package variables that the reading takes, are together of bulk at most 1048576: NARROWER than '..Said'. Prove '..Said' where nothing that the law and all that it calls make is longer than what came in: it says more and counts as full. Else prove '..UptoSaid'. A law counts once. -/
mutual
def uptoBulk {H : Type} : DataW H → Nat
  | .lit (.string bytes) => bytes.length + 1
  | .lit _ => 1
  | .nil => 1
  | .ptr d => uptoBulk d + 1
  | .slice elems spare => uptoBulkAll elems + uptoBulkAll spare + 1
  | .agg parts => uptoBulkAll parts + 1
  | .iface _ d => uptoBulk d + 1
  | .map entries => uptoBulkEntries entries + 1
  | .held _ => 1
def uptoBulkAll {H : Type} : List (DataW H) → Nat
  | [] => 0
  | d :: r => uptoBulk d + uptoBulkAll r
def uptoBulkEntries {H : Type} : List (Lit × DataW H) → Nat
  | [] => 0
  | x :: r => uptoBulkEntry x + uptoBulkEntries r
def uptoBulkEntry {H : Type} : Lit × DataW H → Nat
  | (.string bytes, d) => bytes.length + uptoBulk d + 1
  | (_, d) => uptoBulk d + 1
 end
def uptoSmall : (H : Type) → List (DataW H) → Bool := fun _ ds => decide (uptoBulkAll ds ≤ 1048576)
def OpenSpec.upto (s : _root_.Go.ChangeSpec) : _root_.Go.OpenSpec := { _root_.Go.OpenSpec.ofChange s with cond := some uptoSmall }

/-- 'weighlocklaw36.ParserActs', WHERE WHAT IT READS IS OF BULK AT MOST 1048576: true; the input reads as it did. -/
def parserActsUptoRow : OpenClaim := { program := "ytlgihjhlkpmpnaa", sum := "1c6c44a0bb82ef4fd4ed2bb719d407bf66ecfb2c3a8807cde221ad50699547c7", func := "weighlock/weighlocklaw36.ParserActs", spec := "parserActs", unfollowed := true, recurses := true, plainKeys := false, apart := false, narrowed := true }
def ParserActsUptoSaid : Prop := parserActsUptoRow.holds Try.pinned (OpenSpec.upto parserActsSpec)

/-- 'weighlocklaw36.ParserPieces', WHERE WHAT IT READS IS OF BULK AT MOST 1048576: true; the input reads as it did. -/
def parserPiecesUptoRow : OpenClaim := { program := "ytlgihjhlkpmpnaa", sum := "1c6c44a0bb82ef4fd4ed2bb719d407bf66ecfb2c3a8807cde221ad50699547c7", func := "weighlock/weighlocklaw36.ParserPieces", spec := "parserPieces", unfollowed := true, recurses := true, plainKeys := false, apart := false, narrowed := true }
def ParserPiecesUptoSaid : Prop := parserPiecesUptoRow.holds Try.pinned (OpenSpec.upto parserPiecesSpec)

/-- 'weighlocklaw36.ParserNil', WHERE WHAT IT READS IS OF BULK AT MOST 1048576: true; the input reads as it did. -/
def parserNilUptoRow : OpenClaim := { program := "ytlgihjhlkpmpnaa", sum := "1c6c44a0bb82ef4fd4ed2bb719d407bf66ecfb2c3a8807cde221ad50699547c7", func := "weighlock/weighlocklaw36.ParserNil", spec := "parserNil", unfollowed := true, recurses := true, plainKeys := false, apart := false, narrowed := true }
def ParserNilUptoSaid : Prop := parserNilUptoRow.holds Try.pinned (OpenSpec.upto parserNilSpec)

/-- 'weighlocklaw34.WireDecodes', WHERE WHAT IT READS IS OF BULK AT MOST 1048576: true; the input reads as it did. -/
def wireDecodesUptoRow : OpenClaim := { program := "ytlgihjhlkpmpnaa", sum := "1c6c44a0bb82ef4fd4ed2bb719d407bf66ecfb2c3a8807cde221ad50699547c7", func := "weighlock/weighlocklaw34.WireDecodes", spec := "wireDecodes", plainKeys := false, apart := false, narrowed := true }
def WireDecodesUptoSaid : Prop := wireDecodesUptoRow.holds Try.pinned (OpenSpec.upto wireDecodesSpec)

/-- 'weighlocklaw34.WirePeeks', WHERE WHAT IT READS IS OF BULK AT MOST 1048576: true; the input reads as it did. -/
def wirePeeksUptoRow : OpenClaim := { program := "ytlgihjhlkpmpnaa", sum := "1c6c44a0bb82ef4fd4ed2bb719d407bf66ecfb2c3a8807cde221ad50699547c7", func := "weighlock/weighlocklaw34.WirePeeks", spec := "wirePeeks", recurses := true, plainKeys := false, apart := false, narrowed := true }
def WirePeeksUptoSaid : Prop := wirePeeksUptoRow.holds Try.pinned (OpenSpec.upto wirePeeksSpec)

/-- 'weighlocklaw34.WireEncodes', WHERE WHAT IT READS IS OF BULK AT MOST 1048576: true; the input reads as it did. -/
def wireEncodesUptoRow : OpenClaim := { program := "ytlgihjhlkpmpnaa", sum := "1c6c44a0bb82ef4fd4ed2bb719d407bf66ecfb2c3a8807cde221ad50699547c7", func := "weighlock/weighlocklaw34.WireEncodes", spec := "wireEncodes", recurses := true, plainKeys := false, apart := false, narrowed := true }
def WireEncodesUptoSaid : Prop := wireEncodesUptoRow.holds Try.pinned (OpenSpec.upto wireEncodesSpec)

/-- 'weighlocklaw39.SessionPieces', WHERE WHAT IT READS IS OF BULK AT MOST 1048576: true; the input reads as it did. -/
def sessionPiecesUptoRow : OpenClaim := { program := "ytlgihjhlkpmpnaa", sum := "1c6c44a0bb82ef4fd4ed2bb719d407bf66ecfb2c3a8807cde221ad50699547c7", func := "weighlock/weighlocklaw39.SessionPieces", spec := "sessionPieces", unfollowed := true, recurses := true, plainKeys := false, apart := false, narrowed := true }
def SessionPiecesUptoSaid : Prop := sessionPiecesUptoRow.holds Try.pinned (OpenSpec.upto sessionPiecesSpec)

/-- 'weighlocklaw39.SessionActs', WHERE WHAT IT READS IS OF BULK AT MOST 1048576: true; the input reads as it did. -/
def sessionActsUptoRow : OpenClaim := { program := "ytlgihjhlkpmpnaa", sum := "1c6c44a0bb82ef4fd4ed2bb719d407bf66ecfb2c3a8807cde221ad50699547c7", func := "weighlock/weighlocklaw39.SessionActs", spec := "sessionActs", unfollowed := true, recurses := true, plainKeys := false, apart := false, narrowed := true }
def SessionActsUptoSaid : Prop := sessionActsUptoRow.holds Try.pinned (OpenSpec.upto sessionActsSpec)

/-- 'weighlocklaw39.SessionApart', WHERE WHAT IT READS IS OF BULK AT MOST 1048576: true; the input reads as it did. -/
def sessionApartUptoRow : OpenClaim := { program := "ytlgihjhlkpmpnaa", sum := "1c6c44a0bb82ef4fd4ed2bb719d407bf66ecfb2c3a8807cde221ad50699547c7", func := "weighlock/weighlocklaw39.SessionApart", spec := "sessionApart", unfollowed := true, recurses := true, plainKeys := false, apart := false, narrowed := true }
def SessionApartUptoSaid : Prop := sessionApartUptoRow.holds Try.pinned (OpenSpec.upto sessionApartSpec)

/-- 'weighlocklaw39.SessionNil', WHERE WHAT IT READS IS OF BULK AT MOST 1048576: true; the input reads as it did. -/
def sessionNilUptoRow : OpenClaim := { program := "ytlgihjhlkpmpnaa", sum := "1c6c44a0bb82ef4fd4ed2bb719d407bf66ecfb2c3a8807cde221ad50699547c7", func := "weighlock/weighlocklaw39.SessionNil", spec := "sessionNil", unfollowed := true, recurses := true, plainKeys := false, apart := false, narrowed := true }
def SessionNilUptoSaid : Prop := sessionNilUptoRow.holds Try.pinned (OpenSpec.upto sessionNilSpec)

end Rows
end Go.Proofs.Ytlgihjhlkpmpnaa
