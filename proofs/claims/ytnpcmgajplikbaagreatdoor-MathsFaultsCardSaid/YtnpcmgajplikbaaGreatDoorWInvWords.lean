-- Cut by a program of this session (wip/tools/prunew.py) out of a text that the kit's print lays: not as printed, what is not used here is left out.
import Derived.Test.YtnpcmgajplikbaaGreatDoorWInv
import Derived.Test.YtnpcmgajplikbaaGreatDoorWFootNe
namespace Go.Proofs.YtnpcmgajplikbaaGreatDoorW.PrintWords
open Go.RowKit
end Go.Proofs.YtnpcmgajplikbaaGreatDoorW.PrintWords
namespace Go.Proofs.YtnpcmgajplikbaaGreatDoorW.PrintLast
section
variable {ops : Array Oper} {a : Act} {o og : Oper} {g : Nat} {t : Tmp} {u : Bool}
end
end Go.Proofs.YtnpcmgajplikbaaGreatDoorW.PrintLast
