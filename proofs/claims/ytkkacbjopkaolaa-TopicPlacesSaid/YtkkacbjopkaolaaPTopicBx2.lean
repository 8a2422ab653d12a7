-- Laid by a program of this session (wip/pr/mkprint.py: the print of the kit, turned to take hand-proved contracts).
import Derived.Test.YtkkacbjopkaolaaPTopicBx0
namespace Go.Proofs.Ytkkacbjopkaolaa.PTopicB
open Go.Proofs.Ytkkacbjopkaolaa.Hand Go.Proofs.Ytkkacbjopkaolaa.PTopicA Go.Proofs.Ytkkacbjopkaolaa.HandTopic Go.Proofs.Ytkkacbjopkaolaa.HandTopic3
open Go.RowKit Go.Proofs.YtkkacbjopkaolaaW.PrintWords Go.Proofs.YtkkacbjopkaolaaW.PrintLast Go.Proofs.YtkkacbjopkaolaaW.PrintMore
attribute [local go_sem] max2_int min2_int max_two min_two max_three min_three max_four min_four   -- for this text's walks alone
set_option linter.unusedVariables false
set_option linter.unusedSimpArgs false

theorem eqA40 (d : Nat) (w : World) (x0 y0 : ByteArray) (x1 y1 : Int) :
    (Op.equalIn (d + 2) 40 (.agg #[.string x0, .int .i64 x1]) (.agg #[.string y0, .int .i64 y1])).run Try.prog w = .ok (x0.toList == y0.toList && (x1 == y1)) w := by
  refine eqA_of Try.underlying40 (by kernel_rfl) ?_
  refine eqf_cons (by rfl) (by go_simp; rfl) (by go_simp; rfl) (by go_simp) ?_
  exact eqf_last (by rfl) (by go_simp; rfl) (by go_simp; rfl) (by go_simp)
end Go.Proofs.Ytkkacbjopkaolaa.PTopicB
