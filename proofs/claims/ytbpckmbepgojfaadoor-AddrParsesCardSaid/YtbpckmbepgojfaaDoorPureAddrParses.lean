/- Cells, references and names are read as the document says: for all texts. -/
import Derived.Test.YtbpckmbepgojfaaDoorAdD
import Derived.Test.YtbpckmbepgojfaaDoorPx0
import Derived.Test.YtbpckmbepgojfaaDoorPx8
namespace Go.Proofs.YtbpckmbepgojfaaDoor.Pure
open Go.RowKit Go.Proofs.YtbpckmbepgojfaaDoor.P Go.Proofs.YtbpckmbepgojfaaDoor.Ad Go.Proofs.YtbpckmbepgojfaaDoorW.PrintWords Go.Proofs.YtbpckmbepgojfaaDoorW.PrintLast
set_option linter.unusedVariables false
set_option linter.unusedSimpArgs false

theorem AddrParses : octavolaw08_AddrParses.Pure := by
  intro s hs
  exact Ev.rounds (r := true) (Ev.bind (ParseCell_is hs) (Ev.bind (rParseCell_is hs) (Ev.bind (ParseRef_is hs) (Ev.bind (rParseRef_is hs) (Ev.bind (GoodName_is hs) (Ev.bind (rGoodName_is hs) (E.pos (beq_self_eq_true _) (E.pos (by simp) (E.pos (beq_self_eq_true _) (E.pos (by simp) (E.pos (beq_self_eq_true _) a_fin)))))))))))
end Go.Proofs.YtbpckmbepgojfaaDoor.Pure
