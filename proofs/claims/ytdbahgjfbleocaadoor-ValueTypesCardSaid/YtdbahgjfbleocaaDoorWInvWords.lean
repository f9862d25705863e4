-- Cut by a program of this session (wip/tools/prunew.py) out of a text that the kit's print lays: not as printed, what is not used here is left out.
import Derived.Test.YtdbahgjfbleocaaDoorWInv
import Derived.Test.YtdbahgjfbleocaaDoorWFootNe
namespace Go.Proofs.YtdbahgjfbleocaaDoorW.PrintWords
open Go.RowKit
end Go.Proofs.YtdbahgjfbleocaaDoorW.PrintWords
namespace Go.Proofs.YtdbahgjfbleocaaDoorW.PrintLast
section
variable {ops : Array Oper} {a : Act} {o og : Oper} {g : Nat} {t : Tmp} {u : Bool}
end
end Go.Proofs.YtdbahgjfbleocaaDoorW.PrintLast
