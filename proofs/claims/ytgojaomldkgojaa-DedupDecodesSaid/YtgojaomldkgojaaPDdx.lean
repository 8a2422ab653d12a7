-- Laid by a program of this session (wip/pr/mkprint.py: the print of the kit, turned to take hand-proved contracts).
import Derived.Test.YtgojaomldkgojaaPDdx0
import Derived.Test.YtgojaomldkgojaaPDdx1
import Derived.Test.YtgojaomldkgojaaPDdx2
import Derived.Test.YtgojaomldkgojaaPDdx3
import Derived.Test.YtgojaomldkgojaaPDdx4
import Derived.Test.YtgojaomldkgojaaPDdx5
namespace Go.Proofs.Ytgojaomldkgojaa.PDd
open Go.Proofs.Ytgojaomldkgojaa.Hand
open Go.RowKit Go.Proofs.YtgojaomldkgojaaW.PrintWords Go.Proofs.YtgojaomldkgojaaW.PrintLast Go.Proofs.YtgojaomldkgojaaW.PrintMore
attribute [local go_sem] max2_int min2_int max_two min_two max_three min_three max_four min_four   -- for this text's walks alone
set_option linter.unusedVariables false
set_option linter.unusedSimpArgs false

end Go.Proofs.Ytgojaomldkgojaa.PDd
