/- The number of any text, and the text of any int, are the document's: for every text and every int of int's kind. -/
import Derived.Test.YtficjmgofbdohaaDoorNumK
import Derived.Test.YtficjmgofbdohaaDoorPx7
namespace Go.Proofs.YtficjmgofbdohaaDoor.Pure
open Go.RowKit Go.Proofs.YtficjmgofbdohaaDoor.P Go.Proofs.YtficjmgofbdohaaDoor.Nm Go.Proofs.YtficjmgofbdohaaDoorW.PrintWords Go.Proofs.YtficjmgofbdohaaDoorW.PrintLast
set_option linter.unusedVariables false
set_option linter.unusedSimpArgs false

theorem NumTexts : octavolaw05_NumTexts.Pure := by
  intro s n hs w
  have b := E.wf64 w
  obtain ⟨p, p1, p2, _⟩ := Print_is n b.1 b.2
  refine Ev.rounds (r := true) (Ev.bind (Parse_is hs) (Ev.bind (rParse_is hs) (E.pos rfl (E.pos (by simp) (Ev.bind p1 (Ev.bind p2 (E.pos rfl (E.bindn (Good_is n) (E.bindn (rGood_is n) (E.pos (by simp) (Ev.bind lives_is (Ev.now _))))))))))))
end Go.Proofs.YtficjmgofbdohaaDoor.Pure
