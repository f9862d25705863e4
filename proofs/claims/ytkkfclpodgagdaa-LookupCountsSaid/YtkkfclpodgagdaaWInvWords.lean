-- Cut by a program of this session (wip/tools/prunew.py) out of a text that the kit's print lays: not as printed, what is not used here is left out.
import Derived.Test.YtkkfclpodgagdaaWInv
import Derived.Test.YtkkfclpodgagdaaWFootNe
namespace Go.Proofs.YtkkfclpodgagdaaW.PrintWords
open Go.RowKit
end Go.Proofs.YtkkfclpodgagdaaW.PrintWords
namespace Go.Proofs.YtkkfclpodgagdaaW.PrintLast
section
variable {ops : Array Oper} {a : Act} {o og : Oper} {g : Nat} {t : Tmp} {u : Bool}
end
end Go.Proofs.YtkkfclpodgagdaaW.PrintLast
