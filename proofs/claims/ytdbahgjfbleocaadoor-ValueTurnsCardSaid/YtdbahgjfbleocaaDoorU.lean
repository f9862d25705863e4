/- Small words of this session: characters of texts. -/
import Derived.Test.YtdbahgjfbleocaaDoorX
import Derived.Lib.DecodeN
import Derived.Lib.MapLaws
import Derived.Lib.OthersKept
namespace Go.Proofs.YtdbahgjfbleocaaDoor.X
open Go.RowKit Go.Proofs.YtdbahgjfbleocaaDoorW.PrintWords
set_option linter.unusedVariables false
set_option linter.unusedSimpArgs false

theorem get_ (s : ByteArray) (i : Nat) (h : i < s.size) : s.get! i = s[i]'h := by
  simp [ByteArray.get!, getElem!_pos, h]
  rfl
end Go.Proofs.YtdbahgjfbleocaaDoor.X
