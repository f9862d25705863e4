/- References are told as the document says: for all references. -/
import Derived.Test.YtbpckmbepgojfaaDoorAdE
import Derived.Test.YtbpckmbepgojfaaDoorPx0
import Derived.Test.YtbpckmbepgojfaaDoorPx11
namespace Go.Proofs.YtbpckmbepgojfaaDoor.Pure
open Go.RowKit Go.Proofs.YtbpckmbepgojfaaDoor.P Go.Proofs.YtbpckmbepgojfaaDoor.Ad Go.Proofs.YtbpckmbepgojfaaDoorW.PrintWords Go.Proofs.YtbpckmbepgojfaaDoorW.PrintLast
set_option linter.unusedVariables false
set_option linter.unusedSimpArgs false

theorem AddrPrints : octavolaw08_AddrPrints.Pure := by
  intro b sh r c x y b' sh' r' c' x' y' hb hs _ _ hb' hs' _ _
  exact Ev.rounds (r := true) (E.bindn (Box_is _ _ _ _ _ _ _ _ _ _ _ _) (E.bindn (rBox_is _ _ _ _ _ _ _ _ _ _ _ _) (Ev.bind (a_Good_is hb hs) (Ev.bind (a_rGood_is hb hs) (E.pos (beq_self_eq_true _) (Ev.bind (a_Print_is hb hs) (Ev.bind (rPrint_is hb hs) (E.pos rfl (Ev.bind (PrintArea_is hb hs hb' hs') (Ev.bind (rPrintArea_is hb hs hb' hs') (E.pos rfl (E.pos rfl (E.pos rfl (E.pos rfl (E.pos rfl (Ev.bind (CellText_is r c) (Ev.bind (rCellText_is r c) (E.pos rfl a_fin))))))))))))))))))
end Go.Proofs.YtbpckmbepgojfaaDoor.Pure
