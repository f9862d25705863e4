/- What the text of a number comes to, in the program and in the document's answer. -/
import Derived.Test.YtbpckmbepgojfaaDoorNumA
import Derived.Lib.Mul64
import Derived.Laws.Bits64
import Derived.Laws.Strings
import Derived.Test.YtbpckmbepgojfaaDoorPx0
namespace Go.Proofs.YtbpckmbepgojfaaDoor.Nm
open Go.RowKit Go.Proofs.YtbpckmbepgojfaaDoor.P Go.Proofs.YtbpckmbepgojfaaDoorW.PrintWords Go.Proofs.YtbpckmbepgojfaaDoorW.PrintLast
set_option linter.unusedVariables false
set_option linter.unusedSimpArgs false

theorem son_size (x : List Int) : (strOfNums x).size = x.length := by simp [strOfNums, ByteArray.size]

/-! ### noughts at the end -/
theorem nil_iff (x : ByteArray) : x.toList = ([] : List UInt8) ↔ x.size = 0 := by
  rw [ByteArray.toList_eq, ← List.length_eq_zero_iff, Array.length_toList]
  rfl
end Go.Proofs.YtbpckmbepgojfaaDoor.Nm
