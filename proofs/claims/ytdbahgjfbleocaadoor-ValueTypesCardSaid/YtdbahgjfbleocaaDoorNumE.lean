/- What products, quotients and rests of numbers come to, in the program and in the document's answer. -/
import Derived.Test.YtdbahgjfbleocaaDoorNumA
import Derived.Lib.Mul64
import Derived.Laws.Bits64
import Derived.Test.YtdbahgjfbleocaaDoorPx0
namespace Go.Proofs.YtdbahgjfbleocaaDoor.Nm
open Go.RowKit Go.Proofs.YtdbahgjfbleocaaDoor.P Go.Proofs.YtdbahgjfbleocaaDoorW.PrintWords Go.Proofs.YtdbahgjfbleocaaDoorW.PrintLast
set_option linter.unusedVariables false
set_option linter.unusedSimpArgs false

def ab (n : Int) : Int := if n < 0 then -n else n
/-- with a product's sign -/
def sgn (u a b : Int) : Int × Bool := if u > 100000000000 then (0, false) else if ((decide (a < 0)) != (decide (b < 0))) = true then (-u, true) else (u, true)
def mul (a b : Int) : Int × Bool := if good a ∧ good b then sgn ((ab a * ab b + 5000) / 10000) a b else (0, false)
end Go.Proofs.YtdbahgjfbleocaaDoor.Nm
