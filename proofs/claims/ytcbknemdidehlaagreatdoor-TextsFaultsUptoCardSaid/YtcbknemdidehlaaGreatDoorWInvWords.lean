-- Cut by a program of this session (wip/tools/prunew.py) out of a text that the kit's print lays: not as printed, what is not used here is left out.
import Derived.Test.YtcbknemdidehlaaGreatDoorWInv
import Derived.Test.YtcbknemdidehlaaGreatDoorWFootNe
namespace Go.Proofs.YtcbknemdidehlaaGreatDoorW.PrintWords
open Go.RowKit
end Go.Proofs.YtcbknemdidehlaaGreatDoorW.PrintWords
namespace Go.Proofs.YtcbknemdidehlaaGreatDoorW.PrintLast
section
variable {ops : Array Oper} {a : Act} {o og : Oper} {g : Nat} {t : Tmp} {u : Bool}
end
end Go.Proofs.YtcbknemdidehlaaGreatDoorW.PrintLast
