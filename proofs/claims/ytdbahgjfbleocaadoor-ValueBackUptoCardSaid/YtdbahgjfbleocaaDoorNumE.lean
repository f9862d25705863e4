/- What products, quotients and rests of numbers come to, in the program and in the document's answer. -/
import Derived.Test.YtdbahgjfbleocaaDoorNumD
import Derived.Test.YtdbahgjfbleocaaDoorPx0
import Derived.Test.YtdbahgjfbleocaaDoorPx3
namespace Go.Proofs.YtdbahgjfbleocaaDoor.Nm
open Go.RowKit Go.Proofs.YtdbahgjfbleocaaDoor.P Go.Proofs.YtdbahgjfbleocaaDoorW.PrintWords Go.Proofs.YtdbahgjfbleocaaDoorW.PrintLast
set_option linter.unusedVariables false
set_option linter.unusedSimpArgs false

def ab (n : Int) : Int := if n < 0 then -n else n
theorem ab_bd {n : Int} (g : good n) : 0 ≤ ab n ∧ ab n ≤ 100000000000 := by unfold good at g; unfold ab; split <;> omega
theorem size_is {n : Int} (h : -9223372036854775808 ≤ n) (k : n ≤ 9223372036854775807) : num_size.f n = some (ab n) := by
  unfold num_size.f ab
  by_cases c : n < 0
  · rw [if_pos c, if_pos c]
    simp only [IntKind.wrap_u64, Option.some.injEq]
    omega
  · rw [if_neg c, if_neg c]
    simp only [IntKind.wrap_u64, Option.some.injEq]
    omega
/-- with a product's sign -/
def sgn (u a b : Int) : Int × Bool := if u > 100000000000 then (0, false) else if ((decide (a < 0)) != (decide (b < 0))) = true then (-u, true) else (u, true)
def mul (a b : Int) : Int × Bool := if good a ∧ good b then sgn ((ab a * ab b + 5000) / 10000) a b else (0, false)
end Go.Proofs.YtdbahgjfbleocaaDoor.Nm
