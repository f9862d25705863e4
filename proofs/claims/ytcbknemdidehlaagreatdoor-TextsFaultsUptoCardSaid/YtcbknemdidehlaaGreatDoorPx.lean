-- Written by a program of this session (wip/tools/xprint.py), out of the seat's translation. Not trusted: Lean checks it.
import Derived.Test.YtcbknemdidehlaaGreatDoorPx0
import Derived.Test.YtcbknemdidehlaaGreatDoorPx1
import Derived.Test.YtcbknemdidehlaaGreatDoorPx2
import Derived.Test.YtcbknemdidehlaaGreatDoorPx3
import Derived.Test.YtcbknemdidehlaaGreatDoorPx4
namespace Go.Proofs.YtcbknemdidehlaaGreatDoor.P
open Go.RowKit Go.Proofs.YtcbknemdidehlaaGreatDoorW.PrintWords Go.Proofs.YtcbknemdidehlaaGreatDoorW.PrintLast Go.Proofs.YtcbknemdidehlaaGreatDoorW.PrintMore
attribute [local go_sem] max2_int min2_int max_two min_two max_three min_three max_four min_four X.binOp_str_gtr X.binOp_str_leq
set_option linter.unusedVariables false
set_option linter.unusedSimpArgs false
end Go.Proofs.YtcbknemdidehlaaGreatDoor.P
