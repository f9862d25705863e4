/- Which of two values is greater is the document's: for all values. -/
import Derived.Test.YtdbahgjfbleocaaDoorVlC
import Derived.Test.YtdbahgjfbleocaaDoorPx0
import Derived.Test.YtdbahgjfbleocaaDoorPx7
namespace Go.Proofs.YtdbahgjfbleocaaDoor.Pure
open Go.RowKit Go.Proofs.YtdbahgjfbleocaaDoor.P Go.Proofs.YtdbahgjfbleocaaDoor.Nm Go.Proofs.YtdbahgjfbleocaaDoor.Vl Go.Proofs.YtdbahgjfbleocaaDoorW.PrintWords Go.Proofs.YtdbahgjfbleocaaDoorW.PrintLast
set_option linter.unusedVariables false
set_option linter.unusedSimpArgs false

theorem ValueCmps : octavolaw06_ValueCmps.Pure := by
  intro a0 a1 a2 b0 b1 b2 _ _ ha _ _ hb
  exact Ev.rounds (r := true) (Ev.bind (Cmp_is ha hb) (E.bindn (rCmp_is ha hb) (E.pos rfl vfin)))
end Go.Proofs.YtdbahgjfbleocaaDoor.Pure
