/- Small words of this session: characters of texts. -/
import Derived.Test.YtbpckmbepgojfaaDoorX
import Derived.Lib.DecodeN
import Derived.Lib.MapLaws
import Derived.Lib.OthersKept
import Derived.Laws.Runes
namespace Go.Proofs.YtbpckmbepgojfaaDoor.X
open Go.RowKit Go.Proofs.YtbpckmbepgojfaaDoorW.PrintWords
set_option linter.unusedVariables false
set_option linter.unusedSimpArgs false

end Go.Proofs.YtbpckmbepgojfaaDoor.X
