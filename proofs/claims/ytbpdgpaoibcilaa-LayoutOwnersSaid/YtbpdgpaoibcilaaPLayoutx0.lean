-- Laid by a program of this session (wip/pr/mkprint.py: the print of the kit, turned to take hand-proved contracts).
import Derived.Test.YtbpdgpaoibcilaaProg
import Derived.Below
import Derived.Deep.Draws
import Derived.Deep.AppendLies
import Derived.Maps.AppendAt
import Derived.OwnWalk
import Derived.Laws.BytesArg
import Derived.Laws.MakeOwn
import Derived.Laws.OwnMore
import Derived.Deep.OwnRows
import Derived.Tactics
import Derived.Lib.ConvBytes
import Derived.Laws.Slices
import Derived.WalkKit
import Derived.KernelRfl
import Derived.RowKit3
import Derived.Deep.LoopGhost
import Derived.Deep.QuietTactic
import Derived.BigQuiet
import Derived.WideLaws
import Derived.Deep.DeepCutAuto
import Derived.Deep.CutBlock
import Derived.Deep.RegionHeld3
import Derived.Laws.Rows
import Derived.Lib.AppendStr
import Derived.ArgAppend
import Derived.Laws.IdiomCopy
import Derived.OrdersHeld
import Derived.Laws.BitsLemmas
import Derived.RowKit
import Derived.Test.YtbpdgpaoibcilaaWWords
import Derived.Test.YtbpdgpaoibcilaaWLast
import Derived.Test.YtbpdgpaoibcilaaWTab
import Derived.Test.YtbpdgpaoibcilaaWFour
import Derived.Test.YtbpdgpaoibcilaaWQPut
import Derived.Test.YtbpdgpaoibcilaaWApart
import Derived.Test.YtbpdgpaoibcilaaWArr
import Derived.Test.YtbpdgpaoibcilaaWZeros
import Derived.Test.YtbpdgpaoibcilaaWFoot
import Derived.Test.YtbpdgpaoibcilaaWKept
import Derived.Test.YtbpdgpaoibcilaaWShare
import Derived.Test.YtbpdgpaoibcilaaWN
import Derived.Test.YtbpdgpaoibcilaaWFootNe
import Derived.Test.YtbpdgpaoibcilaaWAt
import Derived.Test.YtbpdgpaoibcilaaWEqStruct
import Derived.Test.YtbpdgpaoibcilaaWRepsOne
import Derived.Test.YtbpdgpaoibcilaaWInv
import Derived.Test.YtbpdgpaoibcilaaWInvWords
import Derived.Test.YtbpdgpaoibcilaaWGuard
import Derived.Test.YtbpdgpaoibcilaaWNEv
import Derived.Test.YtbpdgpaoibcilaaWMore
namespace Go.Proofs.Ytbpdgpaoibcilaa.PLayout
open Go.RowKit Go.Proofs.YtbpdgpaoibcilaaW.PrintWords Go.Proofs.YtbpdgpaoibcilaaW.PrintLast Go.Proofs.YtbpdgpaoibcilaaW.PrintMore
attribute [local go_sem] max2_int min2_int max_two min_two max_three min_three max_four min_four   -- for this text's walks alone
set_option linter.unusedVariables false
set_option linter.unusedSimpArgs false



def errW : Option Int → Value
  | none => .nilIface
  | some c => .iface 0 (.int .i64 c)
theorem errW_none : errW none = .nilIface := rfl
theorem errW_some (c : Int) : errW (some c) = .iface 0 (.int .i64 c) := rfl

theorem info3 : (Try.prog.info? 3).map (fun i => (i.zero, i.size, i.bytes)) = some (some (.int .i64 0), 1, 8) := by kernel_rfl
-- the values' own types

end Go.Proofs.Ytbpdgpaoibcilaa.PLayout
