-- Laid by a program of this session (wip/pr/mkprint.py: the print of the kit, turned to take hand-proved contracts).
import Derived.Test.YtbpdgpaoibcilaaPLayoutx0
import Derived.Test.YtbpdgpaoibcilaaPLayoutx1
namespace Go.Proofs.Ytbpdgpaoibcilaa.PLayout
open Go.RowKit Go.Proofs.YtbpdgpaoibcilaaW.PrintWords Go.Proofs.YtbpdgpaoibcilaaW.PrintLast Go.Proofs.YtbpdgpaoibcilaaW.PrintMore
attribute [local go_sem] max2_int min2_int max_two min_two max_three min_three max_four min_four   -- for this text's walks alone
set_option linter.unusedVariables false
set_option linter.unusedSimpArgs false

end Go.Proofs.Ytbpdgpaoibcilaa.PLayout
