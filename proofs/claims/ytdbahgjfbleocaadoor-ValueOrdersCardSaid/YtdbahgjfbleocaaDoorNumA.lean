/- What the short functions on numbers come to: good ones, floors, rounding. -/
import Derived.Test.YtdbahgjfbleocaaDoorE
import Derived.Test.YtdbahgjfbleocaaDoorPx0
namespace Go.Proofs.YtdbahgjfbleocaaDoor.Nm
open Go.RowKit Go.Proofs.YtdbahgjfbleocaaDoor.P Go.Proofs.YtdbahgjfbleocaaDoorW.PrintWords Go.Proofs.YtdbahgjfbleocaaDoorW.PrintLast
set_option linter.unusedVariables false
set_option linter.unusedSimpArgs false

abbrev good (n : Int) : Prop := -100000000000 ≤ n ∧ n ≤ 100000000000
end Go.Proofs.YtdbahgjfbleocaaDoor.Nm
