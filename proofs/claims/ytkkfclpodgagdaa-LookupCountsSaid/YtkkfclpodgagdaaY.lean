/- Small words of this session: texts, entries of the library. -/
import Derived.Test.YtkkfclpodgagdaaX
import Derived.Lib.Bytealg
import Derived.Laws.Externs
import Derived.Laws.RangeString
import Derived.Laws.RangeAny
import Derived.Shelf.Bits.Mul64
import Derived.Shelf.Spec.BitsCarry
namespace Go.Proofs.Ytkkfclpodgagdaa.X
open Go.RowKit Go.Proofs.YtkkfclpodgagdaaW.PrintWords
set_option linter.unusedVariables false
set_option linter.unusedSimpArgs false
end Go.Proofs.Ytkkfclpodgagdaa.X
