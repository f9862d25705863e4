/- What the short functions on numbers come to: good ones, floors, rounding. -/
import Derived.Test.YtdbahgjfbleocaaDoorE
import Derived.Test.YtdbahgjfbleocaaDoorPx0
import Derived.Test.YtdbahgjfbleocaaDoorPx2
namespace Go.Proofs.YtdbahgjfbleocaaDoor.Nm
open Go.RowKit Go.Proofs.YtdbahgjfbleocaaDoor.P Go.Proofs.YtdbahgjfbleocaaDoorW.PrintWords Go.Proofs.YtdbahgjfbleocaaDoorW.PrintLast
set_option linter.unusedVariables false
set_option linter.unusedSimpArgs false

abbrev good (n : Int) : Prop := -100000000000 ≤ n ∧ n ≤ 100000000000
theorem Good_is (n : Int) : num_Good.f n = some (decide (good n)) := by
  unfold num_Good.f good
  split <;> simp <;> omega
theorem rGood_is (n : Int) : octavoref05_Good.f n = some (decide (good n)) := by
  unfold octavoref05_Good.f good
  split <;> simp <;> omega
/-- an answer, if it is good -/
def out (n : Int) : Int × Bool := if good n then (n, true) else (0, false)
theorem told_is (n : Int) : num_told.f n = some (out n) := by
  unfold num_told.f out
  rw [Good_is]
  by_cases c : good n <;> simp [c]
end Go.Proofs.YtdbahgjfbleocaaDoor.Nm
