/- What the number of a text comes to, in the program and in the document's answer. -/
import Derived.Test.YtbpckmbepgojfaaDoorNumA
import Derived.Lib.Mul64
import Derived.Laws.Bits64
import Derived.Test.YtbpckmbepgojfaaDoorY
import Derived.Laws.Strings
import Derived.Test.YtbpckmbepgojfaaDoorPx0
namespace Go.Proofs.YtbpckmbepgojfaaDoor.Nm
open Go.RowKit Go.Proofs.YtbpckmbepgojfaaDoor.P Go.Proofs.YtbpckmbepgojfaaDoorW.PrintWords Go.Proofs.YtbpckmbepgojfaaDoorW.PrintLast
set_option linter.unusedVariables false
set_option linter.unusedSimpArgs false

/-- the number of digits, from n on -/
def val : List UInt8 → Int → Int
  | [], n => n
  | c :: l, n => val l (10 * n + ((c.toNat : Int) - 48))
theorem sz (s : ByteArray) : s.data.toList.length = s.size := by rw [Array.length_toList]; rfl
end Go.Proofs.YtbpckmbepgojfaaDoor.Nm
