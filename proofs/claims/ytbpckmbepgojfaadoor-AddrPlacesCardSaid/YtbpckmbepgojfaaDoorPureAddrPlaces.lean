/- The place that a reference tells, and the order of places: for all references and places. -/
import Derived.Test.YtbpckmbepgojfaaDoorAdA
import Derived.Test.YtbpckmbepgojfaaDoorPx0
import Derived.Test.YtbpckmbepgojfaaDoorPx9
namespace Go.Proofs.YtbpckmbepgojfaaDoor.Pure
open Go.RowKit Go.Proofs.YtbpckmbepgojfaaDoor.P Go.Proofs.YtbpckmbepgojfaaDoor.Ad Go.Proofs.YtbpckmbepgojfaaDoorW.PrintWords Go.Proofs.YtbpckmbepgojfaaDoorW.PrintLast
set_option linter.unusedVariables false
set_option linter.unusedSimpArgs false

theorem AddrPlaces : octavolaw08_AddrPlaces.Pure := by
  intro a0 a1 a2 a3 a4 a5 b0 b1 b2 b3 c0 c1 c2 c3
  intros
  obtain ⟨v, h, h'⟩ := At_same a0 a1 a2 a3 a4 a5 b0 b1 b2 b3
  refine Ev.rounds (r := true) (E.bindn h (E.bindn h' (E.pos (by simp) (Ev.bind (Cmp_is _ _ _ _ _ _ _ _) (E.bindn (rCmp_is _ _ _ _ _ _ _ _) (E.pos rfl (Ev.bind (Cmp_is _ _ _ _ _ _ _ _) (E.pos (cmp_self _ _ _ _) (Ev.bind (Cmp_is _ _ _ _ _ _ _ _) (Ev.bind (Cmp_is _ _ _ _ _ _ _ _) (E.pos (cmp_anti _ _ _ _ _ _ _ _) fin)))))))))))
end Go.Proofs.YtbpckmbepgojfaaDoor.Pure
