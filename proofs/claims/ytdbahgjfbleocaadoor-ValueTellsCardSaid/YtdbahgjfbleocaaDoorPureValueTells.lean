/- Of any value: is it one, what it shows, and what it is turned into are the document's. -/
import Derived.Test.YtdbahgjfbleocaaDoorVlC
import Derived.Test.YtdbahgjfbleocaaDoorPx0
import Derived.Test.YtdbahgjfbleocaaDoorPx9
namespace Go.Proofs.YtdbahgjfbleocaaDoor.Pure
open Go.RowKit Go.Proofs.YtdbahgjfbleocaaDoor.P Go.Proofs.YtdbahgjfbleocaaDoor.Nm Go.Proofs.YtdbahgjfbleocaaDoor.Vl Go.Proofs.YtdbahgjfbleocaaDoorW.PrintWords Go.Proofs.YtdbahgjfbleocaaDoorW.PrintLast
set_option linter.unusedVariables false
set_option linter.unusedSimpArgs false

theorem ValueTells : octavolaw06_ValueTells.Pure := by
  intro a b s _ wb hs
  have h := E.wf64 wb
  exact Ev.rounds (r := true) (Ev.bind (ToNum_is hs) (Ev.bind (rToNum_is hs) (Ev.bind (ToText_is h.1 h.2) (Ev.bind (rToText_is h.1 h.2) (E.bindn (ToBool_is hs) (Ev.bind (rToBool_is hs) (E.bindn (vGood_is a b s) (E.bindn (rvGood_is a b s) (E.pos (by simp) (Ev.bind (Text_is h.1 h.2) (Ev.bind (rText_is h.1 h.2) (E.pos rfl (E.pos rfl (E.pos rfl (E.pos rfl (E.pos rfl (E.pos (by simp) (E.pos rfl vfin))))))))))))))))))
end Go.Proofs.YtdbahgjfbleocaaDoor.Pure
