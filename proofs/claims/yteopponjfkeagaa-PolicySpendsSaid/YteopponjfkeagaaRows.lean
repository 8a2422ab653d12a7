/-
  No cell of these rows narrows 'for every input' (looked for: loops, veiled, ifaces, maps, wideKeys, modest, calm, conditions, laid).
  DERIVED. THE GIVEN ROWS OF THIS SEAT. 12 by the template 'for every input the law returns true; each argument reads behind the call as it read before'; 0 by the template 'total and deterministic' (their statements: YteopponjfkeagaaTotals.lean).
  GIVEN WITH THE SEED: the statements are not yours to turn. If you find one false, say at which input.
  Laid BY PROGRAM, IN A SANDBOX (cutbox-rows.mjs): the forced cells as the released guide's own fill.sh prints them over the translation 01e9da03aabc5aae… (all of the seat's roots in one cut). By AI agents, Wed Nov 11 2026. No macro, syntax, notation, axiom, sorry.
-/
import Derived.Test.YteopponjfkeagaaChecked
import GoSem.Claim
import GoSem.ClaimJoined
import GoSem.ClaimMapViews
import Derived.JoinedTies
import Derived.KernelRfl
namespace Go.Proofs.Yteopponjfkeagaa
/- THE CELL 'sum', in the pinned program and in every row, IS THE sha256 OF THE DUMP (.gsa) THAT YteopponjfkeagaaProg.lean LOADS. Nothing in Lean hashes anything: it is a label: what it is worth is what the hold of that sum in a sandbox is worth. -/
noncomputable def Try.pinned : Pinned := { name := "yteopponjfkeagaa", sum := "01e9da03aabc5aae975328a18c8cf9e6bbf8d104549bb3dbe68f6476d3738457", checked := Try.checked }
namespace Rows
def none {H : Type} : Left H := { results := [], args := [] }

/-- 'weighlocklaw04.LatticeNews': WHATEVER THE INPUT: true; the input reads as it did. -/
def latticeNewsSpec : ChangeSpec := { name := "latticeNews", fn := fun _ => fun
  | [d] => { results := [.lit (.bool true)], args := [d] }
  | _ => none }
def latticeNewsRow : OpenClaim := { program := "yteopponjfkeagaa", sum := "01e9da03aabc5aae975328a18c8cf9e6bbf8d104549bb3dbe68f6476d3738457", func := "weighlock/weighlocklaw04.LatticeNews", spec := "latticeNews", unfollowed := true, recurses := true, plainKeys := false, apart := false }
def LatticeNewsSaid : Prop := latticeNewsRow.holds Try.pinned (OpenSpec.ofChange latticeNewsSpec)

/-- ITS FALSE NEIGHBOUR: 'it returns false'. Refute it at one input. -/
def latticeNewsWrong : ChangeSpec := { name := "latticeNews", fn := fun _ => fun
  | [d] => { results := [.lit (.bool false)], args := [d] }
  | _ => none }
def LatticeNewsWrongFalsely : Prop := latticeNewsRow.holds Try.pinned (OpenSpec.ofChange latticeNewsWrong)

/-- 'weighlocklaw04.LatticeAxioms': WHATEVER THE INPUT: true; the input reads as it did. -/
def latticeAxiomsSpec : ChangeSpec := { name := "latticeAxioms", fn := fun _ => fun
  | [d] => { results := [.lit (.bool true)], args := [d] }
  | _ => none }
def latticeAxiomsRow : OpenClaim := { program := "yteopponjfkeagaa", sum := "01e9da03aabc5aae975328a18c8cf9e6bbf8d104549bb3dbe68f6476d3738457", func := "weighlock/weighlocklaw04.LatticeAxioms", spec := "latticeAxioms", unfollowed := true, recurses := true, plainKeys := false, apart := false }
def LatticeAxiomsSaid : Prop := latticeAxiomsRow.holds Try.pinned (OpenSpec.ofChange latticeAxiomsSpec)

/-- ITS FALSE NEIGHBOUR: 'it returns false'. Refute it at one input. -/
def latticeAxiomsWrong : ChangeSpec := { name := "latticeAxioms", fn := fun _ => fun
  | [d] => { results := [.lit (.bool false)], args := [d] }
  | _ => none }
def LatticeAxiomsWrongFalsely : Prop := latticeAxiomsRow.holds Try.pinned (OpenSpec.ofChange latticeAxiomsWrong)

/-- 'weighlocklaw04.LatticeTells': WHATEVER THE INPUT: true; the input reads as it did. -/
def latticeTellsSpec : ChangeSpec := { name := "latticeTells", fn := fun _ => fun
  | [d1, d2, d3] => { results := [.lit (.bool true)], args := [d1, d2, d3] }
  | _ => none }
def latticeTellsRow : OpenClaim := { program := "yteopponjfkeagaa", sum := "01e9da03aabc5aae975328a18c8cf9e6bbf8d104549bb3dbe68f6476d3738457", func := "weighlock/weighlocklaw04.LatticeTells", spec := "latticeTells", unfollowed := true, recurses := true, plainKeys := false, apart := false }
def LatticeTellsSaid : Prop := latticeTellsRow.holds Try.pinned (OpenSpec.ofChange latticeTellsSpec)

/-- ITS FALSE NEIGHBOUR: 'it returns false'. Refute it at one input. -/
def latticeTellsWrong : ChangeSpec := { name := "latticeTells", fn := fun _ => fun
  | [d1, d2, d3] => { results := [.lit (.bool false)], args := [d1, d2, d3] }
  | _ => none }
def LatticeTellsWrongFalsely : Prop := latticeTellsRow.holds Try.pinned (OpenSpec.ofChange latticeTellsWrong)

/-- 'weighlocklaw04.LatticeNil': WHATEVER THE INPUT: true; the input reads as it did. -/
def latticeNilSpec : ChangeSpec := { name := "latticeNil", fn := fun _ => fun
  | [d1, d2] => { results := [.lit (.bool true)], args := [d1, d2] }
  | _ => none }
def latticeNilRow : OpenClaim := { program := "yteopponjfkeagaa", sum := "01e9da03aabc5aae975328a18c8cf9e6bbf8d104549bb3dbe68f6476d3738457", func := "weighlock/weighlocklaw04.LatticeNil", spec := "latticeNil", unfollowed := true, recurses := true, plainKeys := false, apart := false }
def LatticeNilSaid : Prop := latticeNilRow.holds Try.pinned (OpenSpec.ofChange latticeNilSpec)

/-- ITS FALSE NEIGHBOUR: 'it returns false'. Refute it at one input. -/
def latticeNilWrong : ChangeSpec := { name := "latticeNil", fn := fun _ => fun
  | [d1, d2] => { results := [.lit (.bool false)], args := [d1, d2] }
  | _ => none }
def LatticeNilWrongFalsely : Prop := latticeNilRow.holds Try.pinned (OpenSpec.ofChange latticeNilWrong)

/-- 'weighlocklaw04.LatticeDual': WHATEVER THE INPUT: true; the input reads as it did. -/
def latticeDualSpec : ChangeSpec := { name := "latticeDual", fn := fun _ => fun
  | [d] => { results := [.lit (.bool true)], args := [d] }
  | _ => none }
def latticeDualRow : OpenClaim := { program := "yteopponjfkeagaa", sum := "01e9da03aabc5aae975328a18c8cf9e6bbf8d104549bb3dbe68f6476d3738457", func := "weighlock/weighlocklaw04.LatticeDual", spec := "latticeDual", unfollowed := true, recurses := true, plainKeys := false, apart := false }
def LatticeDualSaid : Prop := latticeDualRow.holds Try.pinned (OpenSpec.ofChange latticeDualSpec)

/-- ITS FALSE NEIGHBOUR: 'it returns false'. Refute it at one input. -/
def latticeDualWrong : ChangeSpec := { name := "latticeDual", fn := fun _ => fun
  | [d] => { results := [.lit (.bool false)], args := [d] }
  | _ => none }
def LatticeDualWrongFalsely : Prop := latticeDualRow.holds Try.pinned (OpenSpec.ofChange latticeDualWrong)

/-- 'weighlocklaw32.GuardFlows': WHATEVER THE INPUT: true; the input reads as it did. -/
def guardFlowsSpec : ChangeSpec := { name := "guardFlows", fn := fun _ => fun
  | [d] => { results := [.lit (.bool true)], args := [d] }
  | _ => none }
def guardFlowsRow : OpenClaim := { program := "yteopponjfkeagaa", sum := "01e9da03aabc5aae975328a18c8cf9e6bbf8d104549bb3dbe68f6476d3738457", func := "weighlock/weighlocklaw32.GuardFlows", spec := "guardFlows", unfollowed := true, recurses := true, plainKeys := false, apart := false }
def GuardFlowsSaid : Prop := guardFlowsRow.holds Try.pinned (OpenSpec.ofChange guardFlowsSpec)

/-- ITS FALSE NEIGHBOUR: 'it returns false'. Refute it at one input. -/
def guardFlowsWrong : ChangeSpec := { name := "guardFlows", fn := fun _ => fun
  | [d] => { results := [.lit (.bool false)], args := [d] }
  | _ => none }
def GuardFlowsWrongFalsely : Prop := guardFlowsRow.holds Try.pinned (OpenSpec.ofChange guardFlowsWrong)

/-- 'weighlocklaw05.PolicySpends': WHATEVER THE INPUT: true; the input reads as it did. -/
def policySpendsSpec : ChangeSpec := { name := "policySpends", fn := fun _ => fun
  | [d1, d2, d3] => { results := [.lit (.bool true)], args := [d1, d2, d3] }
  | _ => none }
def policySpendsRow : OpenClaim := { program := "yteopponjfkeagaa", sum := "01e9da03aabc5aae975328a18c8cf9e6bbf8d104549bb3dbe68f6476d3738457", func := "weighlock/weighlocklaw05.PolicySpends", spec := "policySpends", unfollowed := true, recurses := true, plainKeys := false, apart := false }
def PolicySpendsSaid : Prop := policySpendsRow.holds Try.pinned (OpenSpec.ofChange policySpendsSpec)

/-- ITS FALSE NEIGHBOUR: 'it returns false'. Refute it at one input. -/
def policySpendsWrong : ChangeSpec := { name := "policySpends", fn := fun _ => fun
  | [d1, d2, d3] => { results := [.lit (.bool false)], args := [d1, d2, d3] }
  | _ => none }
def PolicySpendsWrongFalsely : Prop := policySpendsRow.holds Try.pinned (OpenSpec.ofChange policySpendsWrong)

/-- 'weighlocklaw05.PolicyWindows': WHATEVER THE INPUT: true; the input reads as it did. -/
def policyWindowsSpec : ChangeSpec := { name := "policyWindows", fn := fun _ => fun
  | [d1, d2, d3] => { results := [.lit (.bool true)], args := [d1, d2, d3] }
  | _ => none }
def policyWindowsRow : OpenClaim := { program := "yteopponjfkeagaa", sum := "01e9da03aabc5aae975328a18c8cf9e6bbf8d104549bb3dbe68f6476d3738457", func := "weighlock/weighlocklaw05.PolicyWindows", spec := "policyWindows", unfollowed := true, recurses := true, plainKeys := false, apart := false }
def PolicyWindowsSaid : Prop := policyWindowsRow.holds Try.pinned (OpenSpec.ofChange policyWindowsSpec)

/-- ITS FALSE NEIGHBOUR: 'it returns false'. Refute it at one input. -/
def policyWindowsWrong : ChangeSpec := { name := "policyWindows", fn := fun _ => fun
  | [d1, d2, d3] => { results := [.lit (.bool false)], args := [d1, d2, d3] }
  | _ => none }
def PolicyWindowsWrongFalsely : Prop := policyWindowsRow.holds Try.pinned (OpenSpec.ofChange policyWindowsWrong)

/-- 'weighlocklaw32.GuardWays': WHATEVER THE INPUT: true; the input reads as it did. -/
def guardWaysSpec : ChangeSpec := { name := "guardWays", fn := fun _ => fun
  | [d1, d2, d3] => { results := [.lit (.bool true)], args := [d1, d2, d3] }
  | _ => none }
def guardWaysRow : OpenClaim := { program := "yteopponjfkeagaa", sum := "01e9da03aabc5aae975328a18c8cf9e6bbf8d104549bb3dbe68f6476d3738457", func := "weighlock/weighlocklaw32.GuardWays", spec := "guardWays", unfollowed := true, recurses := true, plainKeys := false, apart := false }
def GuardWaysSaid : Prop := guardWaysRow.holds Try.pinned (OpenSpec.ofChange guardWaysSpec)

/-- ITS FALSE NEIGHBOUR: 'it returns false'. Refute it at one input. -/
def guardWaysWrong : ChangeSpec := { name := "guardWays", fn := fun _ => fun
  | [d1, d2, d3] => { results := [.lit (.bool false)], args := [d1, d2, d3] }
  | _ => none }
def GuardWaysWrongFalsely : Prop := guardWaysRow.holds Try.pinned (OpenSpec.ofChange guardWaysWrong)

/-- 'weighlocklaw32.GuardNil': WHATEVER THE INPUT: true; the input reads as it did. -/
def guardNilSpec : ChangeSpec := { name := "guardNil", fn := fun _ => fun
  | [d1, d2] => { results := [.lit (.bool true)], args := [d1, d2] }
  | _ => none }
def guardNilRow : OpenClaim := { program := "yteopponjfkeagaa", sum := "01e9da03aabc5aae975328a18c8cf9e6bbf8d104549bb3dbe68f6476d3738457", func := "weighlock/weighlocklaw32.GuardNil", spec := "guardNil", unfollowed := true, recurses := true, plainKeys := false, apart := false }
def GuardNilSaid : Prop := guardNilRow.holds Try.pinned (OpenSpec.ofChange guardNilSpec)

/-- ITS FALSE NEIGHBOUR: 'it returns false'. Refute it at one input. -/
def guardNilWrong : ChangeSpec := { name := "guardNil", fn := fun _ => fun
  | [d1, d2] => { results := [.lit (.bool false)], args := [d1, d2] }
  | _ => none }
def GuardNilWrongFalsely : Prop := guardNilRow.holds Try.pinned (OpenSpec.ofChange guardNilWrong)

/-- 'weighlocklaw05.PolicyNews': WHATEVER THE INPUT: true; the input reads as it did. -/
def policyNewsSpec : ChangeSpec := { name := "policyNews", fn := fun _ => fun
  | [d1, d2, d3] => { results := [.lit (.bool true)], args := [d1, d2, d3] }
  | _ => none }
def policyNewsRow : OpenClaim := { program := "yteopponjfkeagaa", sum := "01e9da03aabc5aae975328a18c8cf9e6bbf8d104549bb3dbe68f6476d3738457", func := "weighlock/weighlocklaw05.PolicyNews", spec := "policyNews", unfollowed := true, recurses := true, plainKeys := false, apart := false }
def PolicyNewsSaid : Prop := policyNewsRow.holds Try.pinned (OpenSpec.ofChange policyNewsSpec)

/-- ITS FALSE NEIGHBOUR: 'it returns false'. Refute it at one input. -/
def policyNewsWrong : ChangeSpec := { name := "policyNews", fn := fun _ => fun
  | [d1, d2, d3] => { results := [.lit (.bool false)], args := [d1, d2, d3] }
  | _ => none }
def PolicyNewsWrongFalsely : Prop := policyNewsRow.holds Try.pinned (OpenSpec.ofChange policyNewsWrong)

/-- 'weighlocklaw05.PolicyNil': WHATEVER THE INPUT: true; the input reads as it did. -/
def policyNilSpec : ChangeSpec := { name := "policyNil", fn := fun _ => fun
  | [d1, d2] => { results := [.lit (.bool true)], args := [d1, d2] }
  | _ => none }
def policyNilRow : OpenClaim := { program := "yteopponjfkeagaa", sum := "01e9da03aabc5aae975328a18c8cf9e6bbf8d104549bb3dbe68f6476d3738457", func := "weighlock/weighlocklaw05.PolicyNil", spec := "policyNil", unfollowed := true, recurses := true, plainKeys := false, apart := false }
def PolicyNilSaid : Prop := policyNilRow.holds Try.pinned (OpenSpec.ofChange policyNilSpec)

/-- ITS FALSE NEIGHBOUR: 'it returns false'. Refute it at one input. -/
def policyNilWrong : ChangeSpec := { name := "policyNil", fn := fun _ => fun
  | [d1, d2] => { results := [.lit (.bool false)], args := [d1, d2] }
  | _ => none }
def PolicyNilWrongFalsely : Prop := policyNilRow.holds Try.pinned (OpenSpec.ofChange policyNilWrong)

/- THE SECOND FORM. 'bulk': how many values and letters a reading holds, each counted each time it is reached (what is shared counts as often as it is met; a slice's spare places count too). A statement '..UptoSaid' is the law's where the arguments, and the package variables that the reading takes, are together of bulk at most 1048576: NARROWER than '..Said'. Prove '..Said' where nothing that the law and all that it calls make is longer than what came in: it says more and counts as full. Else prove '..UptoSaid'. A law counts once. -/
mutual
def uptoBulk {H : Type} : DataW H → Nat
  | .lit (.string bytes) => bytes.length + 1
  | .lit _ => 1
  | .nil => 1
  | .ptr d => uptoBulk d + 1
  | .slice elems spare => uptoBulkAll elems + uptoBulkAll spare + 1
  | .agg parts => uptoBulkAll parts + 1
  | .iface _ d => uptoBulk d + 1
  | .map entries => uptoBulkEntries entries + 1
  | .held _ => 1
def uptoBulkAll {H : Type} : List (DataW H) → Nat
  | [] => 0
  | d :: r => uptoBulk d + uptoBulkAll r
def uptoBulkEntries {H : Type} : List (Lit × DataW H) → Nat
  | [] => 0
  | x :: r => uptoBulkEntry x + uptoBulkEntries r
def uptoBulkEntry {H : Type} : Lit × DataW H → Nat
  | (.string bytes, d) => bytes.length + uptoBulk d + 1
  | (_, d) => uptoBulk d + 1
 end
def uptoSmall : (H : Type) → List (DataW H) → Bool := fun _ ds => decide (uptoBulkAll ds ≤ 1048576)
def OpenSpec.upto (s : _root_.Go.ChangeSpec) : _root_.Go.OpenSpec := { _root_.Go.OpenSpec.ofChange s with cond := some uptoSmall }

/-- 'weighlocklaw04.LatticeNews', WHERE WHAT IT READS IS OF BULK AT MOST 1048576: true; the input reads as it did. -/
def latticeNewsUptoRow : OpenClaim := { program := "yteopponjfkeagaa", sum := "01e9da03aabc5aae975328a18c8cf9e6bbf8d104549bb3dbe68f6476d3738457", func := "weighlock/weighlocklaw04.LatticeNews", spec := "latticeNews", unfollowed := true, recurses := true, plainKeys := false, apart := false, narrowed := true }
def LatticeNewsUptoSaid : Prop := latticeNewsUptoRow.holds Try.pinned (OpenSpec.upto latticeNewsSpec)

/-- 'weighlocklaw04.LatticeAxioms', WHERE WHAT IT READS IS OF BULK AT MOST 1048576: true; the input reads as it did. -/
def latticeAxiomsUptoRow : OpenClaim := { program := "yteopponjfkeagaa", sum := "01e9da03aabc5aae975328a18c8cf9e6bbf8d104549bb3dbe68f6476d3738457", func := "weighlock/weighlocklaw04.LatticeAxioms", spec := "latticeAxioms", unfollowed := true, recurses := true, plainKeys := false, apart := false, narrowed := true }
def LatticeAxiomsUptoSaid : Prop := latticeAxiomsUptoRow.holds Try.pinned (OpenSpec.upto latticeAxiomsSpec)

/-- 'weighlocklaw04.LatticeTells', WHERE WHAT IT READS IS OF BULK AT MOST 1048576: true; the input reads as it did. -/
def latticeTellsUptoRow : OpenClaim := { program := "yteopponjfkeagaa", sum := "01e9da03aabc5aae975328a18c8cf9e6bbf8d104549bb3dbe68f6476d3738457", func := "weighlock/weighlocklaw04.LatticeTells", spec := "latticeTells", unfollowed := true, recurses := true, plainKeys := false, apart := false, narrowed := true }
def LatticeTellsUptoSaid : Prop := latticeTellsUptoRow.holds Try.pinned (OpenSpec.upto latticeTellsSpec)

/-- 'weighlocklaw04.LatticeNil', WHERE WHAT IT READS IS OF BULK AT MOST 1048576: true; the input reads as it did. -/
def latticeNilUptoRow : OpenClaim := { program := "yteopponjfkeagaa", sum := "01e9da03aabc5aae975328a18c8cf9e6bbf8d104549bb3dbe68f6476d3738457", func := "weighlock/weighlocklaw04.LatticeNil", spec := "latticeNil", unfollowed := true, recurses := true, plainKeys := false, apart := false, narrowed := true }
def LatticeNilUptoSaid : Prop := latticeNilUptoRow.holds Try.pinned (OpenSpec.upto latticeNilSpec)

/-- 'weighlocklaw04.LatticeDual', WHERE WHAT IT READS IS OF BULK AT MOST 1048576: true; the input reads as it did. -/
def latticeDualUptoRow : OpenClaim := { program := "yteopponjfkeagaa", sum := "01e9da03aabc5aae975328a18c8cf9e6bbf8d104549bb3dbe68f6476d3738457", func := "weighlock/weighlocklaw04.LatticeDual", spec := "latticeDual", unfollowed := true, recurses := true, plainKeys := false, apart := false, narrowed := true }
def LatticeDualUptoSaid : Prop := latticeDualUptoRow.holds Try.pinned (OpenSpec.upto latticeDualSpec)

/-- 'weighlocklaw32.GuardFlows', WHERE WHAT IT READS IS OF BULK AT MOST 1048576: true; the input reads as it did. -/
def guardFlowsUptoRow : OpenClaim := { program := "yteopponjfkeagaa", sum := "01e9da03aabc5aae975328a18c8cf9e6bbf8d104549bb3dbe68f6476d3738457", func := "weighlock/weighlocklaw32.GuardFlows", spec := "guardFlows", unfollowed := true, recurses := true, plainKeys := false, apart := false, narrowed := true }
def GuardFlowsUptoSaid : Prop := guardFlowsUptoRow.holds Try.pinned (OpenSpec.upto guardFlowsSpec)

/-- 'weighlocklaw05.PolicySpends', WHERE WHAT IT READS IS OF BULK AT MOST 1048576: true; the input reads as it did. -/
def policySpendsUptoRow : OpenClaim := { program := "yteopponjfkeagaa", sum := "01e9da03aabc5aae975328a18c8cf9e6bbf8d104549bb3dbe68f6476d3738457", func := "weighlock/weighlocklaw05.PolicySpends", spec := "policySpends", unfollowed := true, recurses := true, plainKeys := false, apart := false, narrowed := true }
def PolicySpendsUptoSaid : Prop := policySpendsUptoRow.holds Try.pinned (OpenSpec.upto policySpendsSpec)

/-- 'weighlocklaw05.PolicyWindows', WHERE WHAT IT READS IS OF BULK AT MOST 1048576: true; the input reads as it did. -/
def policyWindowsUptoRow : OpenClaim := { program := "yteopponjfkeagaa", sum := "01e9da03aabc5aae975328a18c8cf9e6bbf8d104549bb3dbe68f6476d3738457", func := "weighlock/weighlocklaw05.PolicyWindows", spec := "policyWindows", unfollowed := true, recurses := true, plainKeys := false, apart := false, narrowed := true }
def PolicyWindowsUptoSaid : Prop := policyWindowsUptoRow.holds Try.pinned (OpenSpec.upto policyWindowsSpec)

/-- 'weighlocklaw32.GuardWays', WHERE WHAT IT READS IS OF BULK AT MOST 1048576: true; the input reads as it did. -/
def guardWaysUptoRow : OpenClaim := { program := "yteopponjfkeagaa", sum := "01e9da03aabc5aae975328a18c8cf9e6bbf8d104549bb3dbe68f6476d3738457", func := "weighlock/weighlocklaw32.GuardWays", spec := "guardWays", unfollowed := true, recurses := true, plainKeys := false, apart := false, narrowed := true }
def GuardWaysUptoSaid : Prop := guardWaysUptoRow.holds Try.pinned (OpenSpec.upto guardWaysSpec)

/-- 'weighlocklaw32.GuardNil', WHERE WHAT IT READS IS OF BULK AT MOST 1048576: true; the input reads as it did. -/
def guardNilUptoRow : OpenClaim := { program := "yteopponjfkeagaa", sum := "01e9da03aabc5aae975328a18c8cf9e6bbf8d104549bb3dbe68f6476d3738457", func := "weighlock/weighlocklaw32.GuardNil", spec := "guardNil", unfollowed := true, recurses := true, plainKeys := false, apart := false, narrowed := true }
def GuardNilUptoSaid : Prop := guardNilUptoRow.holds Try.pinned (OpenSpec.upto guardNilSpec)

/-- 'weighlocklaw05.PolicyNews', WHERE WHAT IT READS IS OF BULK AT MOST 1048576: true; the input reads as it did. -/
def policyNewsUptoRow : OpenClaim := { program := "yteopponjfkeagaa", sum := "01e9da03aabc5aae975328a18c8cf9e6bbf8d104549bb3dbe68f6476d3738457", func := "weighlock/weighlocklaw05.PolicyNews", spec := "policyNews", unfollowed := true, recurses := true, plainKeys := false, apart := false, narrowed := true }
def PolicyNewsUptoSaid : Prop := policyNewsUptoRow.holds Try.pinned (OpenSpec.upto policyNewsSpec)

/-- 'weighlocklaw05.PolicyNil', WHERE WHAT IT READS IS OF BULK AT MOST 1048576: true; the input reads as it did. -/
def policyNilUptoRow : OpenClaim := { program := "yteopponjfkeagaa", sum := "01e9da03aabc5aae975328a18c8cf9e6bbf8d104549bb3dbe68f6476d3738457", func := "weighlock/weighlocklaw05.PolicyNil", spec := "policyNil", unfollowed := true, recurses := true, plainKeys := false, apart := false, narrowed := true }
def PolicyNilUptoSaid : Prop := policyNilUptoRow.holds Try.pinned (OpenSpec.upto policyNilSpec)

end Rows
end Go.Proofs.Yteopponjfkeagaa
