-- Laid by a program of this session (wip/pr/mkprint.py: the print of the kit, turned to take hand-proved contracts).
import Derived.Test.YtkkacbjopkaolaaPTopicBx0
import Derived.Test.YtkkacbjopkaolaaPTopicBx1
import Derived.Test.YtkkacbjopkaolaaPTopicBx2
import Derived.Test.YtkkacbjopkaolaaPTopicBx3
import Derived.Test.YtkkacbjopkaolaaPTopicBx4
import Derived.Test.YtkkacbjopkaolaaPTopicBx5
namespace Go.Proofs.Ytkkacbjopkaolaa.PTopicB
open Go.Proofs.Ytkkacbjopkaolaa.Hand Go.Proofs.Ytkkacbjopkaolaa.PTopicA Go.Proofs.Ytkkacbjopkaolaa.HandTopic Go.Proofs.Ytkkacbjopkaolaa.HandTopic3
open Go.RowKit Go.Proofs.YtkkacbjopkaolaaW.PrintWords Go.Proofs.YtkkacbjopkaolaaW.PrintLast Go.Proofs.YtkkacbjopkaolaaW.PrintMore
attribute [local go_sem] max2_int min2_int max_two min_two max_three min_three max_four min_four   -- for this text's walks alone
set_option linter.unusedVariables false
set_option linter.unusedSimpArgs false

end Go.Proofs.Ytkkacbjopkaolaa.PTopicB
