/- Which of two values is greater, in the program and in the document's answer: an order. -/
import Derived.Test.YtdbahgjfbleocaaDoorVlA
import Derived.Test.YtdbahgjfbleocaaDoorPx0
namespace Go.Proofs.YtdbahgjfbleocaaDoor.Vl
open Go.RowKit Go.Proofs.YtdbahgjfbleocaaDoor.P Go.Proofs.YtdbahgjfbleocaaDoor.Nm Go.Proofs.YtdbahgjfbleocaaDoorW.PrintWords Go.Proofs.YtdbahgjfbleocaaDoorW.PrintLast
set_option linter.unusedVariables false
set_option linter.unusedSimpArgs false

theorem e0 : (⟨#[]⟩ : ByteArray).size ≤ 140737488351232 := by decide
end Go.Proofs.YtdbahgjfbleocaaDoor.Vl
