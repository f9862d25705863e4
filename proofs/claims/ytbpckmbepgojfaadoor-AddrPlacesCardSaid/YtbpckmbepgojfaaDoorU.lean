/- Small words of this session: characters of texts. -/
import Derived.Test.YtbpckmbepgojfaaDoorX
import Derived.Lib.DecodeN
import Derived.Lib.MapLaws
import Derived.Lib.OthersKept
import Derived.Laws.Runes
namespace Go.Proofs.YtbpckmbepgojfaaDoor.X
open Go.RowKit Go.Proofs.YtbpckmbepgojfaaDoorW.PrintWords
set_option linter.unusedVariables false
set_option linter.unusedSimpArgs false

theorem get_ (s : ByteArray) (i : Nat) (h : i < s.size) : s.get! i = s[i]'h := by
  simp [ByteArray.get!, getElem!_pos, h]
  rfl
end Go.Proofs.YtbpckmbepgojfaaDoor.X
