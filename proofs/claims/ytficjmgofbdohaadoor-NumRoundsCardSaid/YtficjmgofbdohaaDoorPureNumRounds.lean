/- Rounding, roots, whole numbers and factorials are the document's: for all ints of int's kind. -/
import Derived.Test.YtficjmgofbdohaaDoorNumB
import Derived.Test.YtficjmgofbdohaaDoorNumC
import Derived.Test.YtficjmgofbdohaaDoorPx12
namespace Go.Proofs.YtficjmgofbdohaaDoor.Pure
open Go.RowKit Go.Proofs.YtficjmgofbdohaaDoor.P Go.Proofs.YtficjmgofbdohaaDoor.Nm Go.Proofs.YtficjmgofbdohaaDoorW.PrintWords Go.Proofs.YtficjmgofbdohaaDoorW.PrintLast
set_option linter.unusedVariables false
set_option linter.unusedSimpArgs false

theorem NumRounds : octavolaw05_NumRounds.Pure := by
  intro n d how w1 w2 w3
  obtain ⟨s, s1, s2, _⟩ := Sqrt_is n
  obtain ⟨f, f1, f2⟩ := Fact_is n
  have fin : Ev (fun k => octavolaw05_NumRounds.j1 k n true) true := by
    refine E.succ ?_
    simp only [octavolaw05_NumRounds.j1]
    exact Ev.bind f1 (Ev.bind f2 (E.pos trivial (E.bindn (same_is _ _) (E.pos rfl (Ev.bind lives_is (Ev.now _))))))
  have fin0 : Ev (fun k => octavolaw05_NumRounds.j0 k n true) true := by
    refine E.succ ?_
    simp only [octavolaw05_NumRounds.j0]
    exact E.bindn (Whole_is n).1 (E.bindn (Whole_is n).2 (E.pos trivial (E.bindn (same_is _ _) fin)))
  exact Ev.rounds (r := true) (Ev.bind (Round_is n d how (E.wf64 w2)) (Ev.bind (rRound_is n d how) (E.bindn (same_is _ _) (Ev.bind s1 (Ev.bind s2 (E.pos rfl (E.bindn (same_is _ _) fin0)))))))
end Go.Proofs.YtficjmgofbdohaaDoor.Pure
