/- Which of two values is greater, in the program and in the document's answer: an order. -/
import Derived.Test.YtdbahgjfbleocaaDoorVlA
import Derived.Test.YtdbahgjfbleocaaDoorPx0
namespace Go.Proofs.YtdbahgjfbleocaaDoor.Vl
open Go.RowKit Go.Proofs.YtdbahgjfbleocaaDoor.P Go.Proofs.YtdbahgjfbleocaaDoor.Nm Go.Proofs.YtdbahgjfbleocaaDoorW.PrintWords Go.Proofs.YtdbahgjfbleocaaDoorW.PrintLast
set_option linter.unusedVariables false
set_option linter.unusedSimpArgs false

/-- a value's place among others -/
def pl (a0 a1 : Int) (a2 : ByteArray) (b0 : Int) : Int × Int × ByteArray :=
  if a0 = 0 then (if b0 = 2 then (2, 0, up (⟨#[]⟩ : ByteArray)) else if b0 = 3 then (3, 0, (⟨#[]⟩ : ByteArray)) else (1, 0, (⟨#[]⟩ : ByteArray))) else if a0 = 1 then (1, a1, (⟨#[]⟩ : ByteArray)) else if a0 = 3 then (3, a1, (⟨#[]⟩ : ByteArray)) else if a0 = 2 then (2, 0, up a2) else (4, a1, (⟨#[]⟩ : ByteArray))
theorem e0 : (⟨#[]⟩ : ByteArray).size ≤ 140737488351232 := by decide
end Go.Proofs.YtdbahgjfbleocaaDoor.Vl
