-- Written by a program of this session (wip/tools/xprint.py), out of the seat's translation. Not trusted: Lean checks it.
import Derived.Test.YtkkfclpodgagdaaPx0
import Derived.Test.YtkkfclpodgagdaaPx1
namespace Go.Proofs.Ytkkfclpodgagdaa.P
open Go.RowKit Go.Proofs.YtkkfclpodgagdaaW.PrintWords Go.Proofs.YtkkfclpodgagdaaW.PrintLast Go.Proofs.YtkkfclpodgagdaaW.PrintMore
attribute [local go_sem] max2_int min2_int max_two min_two max_three min_three max_four min_four X.binOp_str_gtr X.binOp_str_leq
set_option linter.unusedVariables false
set_option linter.unusedSimpArgs false
end Go.Proofs.Ytkkfclpodgagdaa.P
