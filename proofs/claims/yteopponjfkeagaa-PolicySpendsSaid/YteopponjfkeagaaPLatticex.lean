-- Laid by a program of this session (wip/pr/mkprint.py: the print of the kit, turned to take hand-proved contracts).
import Derived.Test.YteopponjfkeagaaPLatticex0
import Derived.Test.YteopponjfkeagaaPLatticex1
import Derived.Test.YteopponjfkeagaaPLatticex2
import Derived.Test.YteopponjfkeagaaPLatticex3
import Derived.Test.YteopponjfkeagaaPLatticex4
namespace Go.Proofs.Yteopponjfkeagaa.PLattice
open Go.RowKit Go.Proofs.YteopponjfkeagaaW.PrintWords Go.Proofs.YteopponjfkeagaaW.PrintLast Go.Proofs.YteopponjfkeagaaW.PrintMore
attribute [local go_sem] max2_int min2_int max_two min_two max_three min_three max_four min_four   -- for this text's walks alone
set_option linter.unusedVariables false
set_option linter.unusedSimpArgs false

end Go.Proofs.Yteopponjfkeagaa.PLattice
