/- What sums, rests, whole quotients and powers come to, in the program and in the document's answer. -/
import Derived.Test.YtdbahgjfbleocaaDoorNumA
import Derived.Test.YtdbahgjfbleocaaDoorNumE
import Derived.Test.YtdbahgjfbleocaaDoorPx0
namespace Go.Proofs.YtdbahgjfbleocaaDoor.Nm
open Go.RowKit Go.Proofs.YtdbahgjfbleocaaDoor.P Go.Proofs.YtdbahgjfbleocaaDoorW.PrintWords Go.Proofs.YtdbahgjfbleocaaDoorW.PrintLast
set_option linter.unusedVariables false
set_option linter.unusedSimpArgs false

theorem out_yes' {n : Int} (g : good n) : out n = (n, true) := if_pos g
/-- so many times a number -/
def pw (a : Int) : Nat → Int → Int × Bool
  | 0, p => (p, true)
  | n + 1, p => if (mul p a).2 = true then pw a n (mul p a).1 else (0, false)
end Go.Proofs.YtdbahgjfbleocaaDoor.Nm
