/- Small words of this session: characters of texts. -/
import Derived.Test.YtkkfclpodgagdaaX
import Derived.Lib.DecodeN
import Derived.Lib.MapLaws
import Derived.Lib.OthersKept
import Derived.Laws.Runes
namespace Go.Proofs.Ytkkfclpodgagdaa.X
open Go.RowKit Go.Proofs.YtkkfclpodgagdaaW.PrintWords
set_option linter.unusedVariables false
set_option linter.unusedSimpArgs false
def rl (r : Nat) : Nat := if r ≤ 127 then 1 else if r ≤ 2047 then 2 else if r ≤ 65535 then 3 else 4
end Go.Proofs.Ytkkfclpodgagdaa.X
