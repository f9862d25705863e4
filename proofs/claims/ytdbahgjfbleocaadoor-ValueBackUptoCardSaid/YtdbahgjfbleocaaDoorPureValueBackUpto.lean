/- What a good value shows is typed to it, if it is no text; a text's characters make it again: for every value and every text, together of bulk at most 1048576. -/
import Derived.Test.YtdbahgjfbleocaaDoorPureValueBack
import Derived.Test.YtdbahgjfbleocaaDoorPx0
import Derived.Test.YtdbahgjfbleocaaDoorPx7
namespace Go.Proofs.YtdbahgjfbleocaaDoor.Pure
open Go.RowKit Go.Proofs.YtdbahgjfbleocaaDoor.P Go.Proofs.YtdbahgjfbleocaaDoor.Nm Go.Proofs.YtdbahgjfbleocaaDoor.Vl Go.Proofs.YtdbahgjfbleocaaDoorW.PrintWords Go.Proofs.YtdbahgjfbleocaaDoorW.PrintLast
set_option linter.unusedVariables false

theorem ValueBackUpto : octavolaw06_ValueBack.PureUpto := by
  intro a b s t _ wb hs ht hk
  exact ValueBack_small a b s t wb hs (by omega)
end Go.Proofs.YtdbahgjfbleocaaDoor.Pure
