-- Laid by a program of this session (wip/pr/mkprint.py: the print of the kit, turned to take hand-proved contracts).
import Derived.Test.YtbpdgpaoibcilaaPNumsx0
import Derived.Test.YtbpdgpaoibcilaaPNumsx1
import Derived.Test.YtbpdgpaoibcilaaPNumsx2
import Derived.Test.YtbpdgpaoibcilaaPNumsx3
import Derived.Test.YtbpdgpaoibcilaaPNumsx4
import Derived.Test.YtbpdgpaoibcilaaPNumsx5
import Derived.Test.YtbpdgpaoibcilaaPNumsx6
namespace Go.Proofs.Ytbpdgpaoibcilaa.PNums
open Go.Proofs.Ytbpdgpaoibcilaa.Hand
open Go.RowKit Go.Proofs.YtbpdgpaoibcilaaW.PrintWords Go.Proofs.YtbpdgpaoibcilaaW.PrintLast Go.Proofs.YtbpdgpaoibcilaaW.PrintMore
attribute [local go_sem] max2_int min2_int max_two min_two max_three min_three max_four min_four   -- for this text's walks alone
set_option linter.unusedVariables false
set_option linter.unusedSimpArgs false

end Go.Proofs.Ytbpdgpaoibcilaa.PNums
