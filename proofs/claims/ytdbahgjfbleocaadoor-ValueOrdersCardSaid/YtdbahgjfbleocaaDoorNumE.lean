/- What products, quotients and rests of numbers come to, in the program and in the document's answer. -/
import Derived.Test.YtdbahgjfbleocaaDoorNumA
import Derived.Lib.Mul64
import Derived.Laws.Bits64
import Derived.Test.YtdbahgjfbleocaaDoorPx0
namespace Go.Proofs.YtdbahgjfbleocaaDoor.Nm
open Go.RowKit Go.Proofs.YtdbahgjfbleocaaDoor.P Go.Proofs.YtdbahgjfbleocaaDoorW.PrintWords Go.Proofs.YtdbahgjfbleocaaDoorW.PrintLast
set_option linter.unusedVariables false
set_option linter.unusedSimpArgs false

def ab (n : Int) : Int := if n < 0 then -n else n
end Go.Proofs.YtdbahgjfbleocaaDoor.Nm
