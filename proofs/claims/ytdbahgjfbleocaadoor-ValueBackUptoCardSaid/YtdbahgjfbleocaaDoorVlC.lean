/- The document's examples of values. -/
import Derived.Test.YtdbahgjfbleocaaDoorVlB
import Derived.Test.YtdbahgjfbleocaaDoorPx0
import Derived.Test.YtdbahgjfbleocaaDoorPx5
namespace Go.Proofs.YtdbahgjfbleocaaDoor.Vl
open Go.RowKit Go.Proofs.YtdbahgjfbleocaaDoor.P Go.Proofs.YtdbahgjfbleocaaDoor.Nm Go.Proofs.YtdbahgjfbleocaaDoorW.PrintWords Go.Proofs.YtdbahgjfbleocaaDoorW.PrintLast
set_option linter.unusedVariables false
set_option linter.unusedSimpArgs false

theorem vlives_is : Ev (fun k => octavolaw06_lives.f k) true := Ev.of (fun k => octavolaw06_lives.mono k) (k := 60) (by decide +kernel)
theorem vfin : Ev (fun n => (octavolaw06_lives.f n).bind fun t => some t) true := Ev.bind vlives_is (Ev.now _)
end Go.Proofs.YtdbahgjfbleocaaDoor.Vl
