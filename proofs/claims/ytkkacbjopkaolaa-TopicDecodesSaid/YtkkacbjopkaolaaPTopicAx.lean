-- Laid by a program of this session (wip/pr/mkprint.py: the print of the kit, turned to take hand-proved contracts).
import Derived.Test.YtkkacbjopkaolaaPTopicAx0
import Derived.Test.YtkkacbjopkaolaaPTopicAx1
import Derived.Test.YtkkacbjopkaolaaPTopicAx2
import Derived.Test.YtkkacbjopkaolaaPTopicAx3
import Derived.Test.YtkkacbjopkaolaaPTopicAx4
import Derived.Test.YtkkacbjopkaolaaPTopicAx5
import Derived.Test.YtkkacbjopkaolaaPTopicAx6
namespace Go.Proofs.Ytkkacbjopkaolaa.PTopicA
open Go.Proofs.Ytkkacbjopkaolaa.Hand
open Go.RowKit Go.Proofs.YtkkacbjopkaolaaW.PrintWords Go.Proofs.YtkkacbjopkaolaaW.PrintLast Go.Proofs.YtkkacbjopkaolaaW.PrintMore
attribute [local go_sem] max2_int min2_int max_two min_two max_three min_three max_four min_four   -- for this text's walks alone
set_option linter.unusedVariables false
set_option linter.unusedSimpArgs false

end Go.Proofs.Ytkkacbjopkaolaa.PTopicA
