-- Cut by a program of this session (wip/tools/prunew.py) out of a text that the kit's print lays: not as printed, what is not used here is left out.
import Derived.Test.YtcbknemdidehlaaGreatDoorWTab
namespace Go.Proofs.YtcbknemdidehlaaGreatDoorW.PrintLast
section
variable {P : Program} {ops : Array Oper} {Q : Exit → Act → World → Prop} {md : Region.Mode} {S : World → Prop} {ds : List Nat} {T : Bool × List (List Nat × List Nat)}
end
end Go.Proofs.YtcbknemdidehlaaGreatDoorW.PrintLast
