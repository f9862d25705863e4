/- A number is the number of its text; a truth that of its number; an error is told as itself by all: for every value. -/
import Derived.Test.YtdbahgjfbleocaaDoorVlC
import Derived.Test.YtdbahgjfbleocaaDoorPx0
import Derived.Test.YtdbahgjfbleocaaDoorPx5
namespace Go.Proofs.YtdbahgjfbleocaaDoor.Pure
open Go.RowKit Go.Proofs.YtdbahgjfbleocaaDoor.P Go.Proofs.YtdbahgjfbleocaaDoor.Nm Go.Proofs.YtdbahgjfbleocaaDoor.Vl Go.Proofs.YtdbahgjfbleocaaDoorW.PrintWords Go.Proofs.YtdbahgjfbleocaaDoorW.PrintLast
set_option linter.unusedVariables false
set_option linter.unusedSimpArgs false

theorem ValueTurns : octavolaw06_ValueTurns.Pure := by
  intro a b s _ wb hs
  have h := E.wf64 wb
  refine Ev.rounds (r := true) (E.bindn (rvGood_is a b s) (E.ite (fun g => ?_) (fun _ => vfin)))
  replace g : gdv a b s := of_decide_eq_true g
  refine Ev.bind (ToNum_is hs) (Ev.bind (ToText_is h.1 h.2) (E.bindn (ToBool_is hs) ?_))
  by_cases c4 : a = 4
  · subst c4
    exact E.pos rfl (E.pos rfl (E.pos rfl (E.pos rfl vfin)))
  refine E.neg c4 ?_
  by_cases c1 : a = 1
  · subst c1
    have g1 : good b := by unfold gdv at g; omega
    have ps := prt_sz h.1 h.2
    have et : ttxt 1 b s = (prt b, 0) := rfl
    have en : tnum 1 b s = (b, 0) := rfl
    rw [et, en]
    refine E.pos rfl (E.bindn (a := (2, 0, prt b)) (by unfold value_Str.f; exact if_neg (show ¬ ((prt b).size : Int) > 255 by omega)) (Ev.bind (ToNum_is (a := 2) (b := 0) (s := prt b) (by omega)) ?_))
    have e2 : tnum 2 0 (prt b) = (b, 0) := by
      show (if (prs (prt b)).2 = true then ((prs (prt b)).1, 0) else (0, 2)) = (b, 0)
      rw [(Prt_is h.1 h.2).2.2 g1]
      rfl
    rw [e2]
    refine E.pos rfl (E.pos rfl (E.pos rfl (E.pos rfl (E.pos ?_ vfin))))
    show ((b != 0) == (b != 0)) = true
    simp
  refine E.neg c1 ?_
  by_cases c3 : a = 3
  · subst c3
    have g3 : b = 0 ∨ b = 1 := by unfold gdv at g; omega
    rcases g3 with rfl | rfl
    · exact E.pos rfl (E.pos rfl (E.pos (show (0 : Int) = wrap64 (0 * 10000) by decide +kernel) (E.pos rfl (E.pos rfl vfin))))
    · exact E.pos rfl (E.pos rfl (E.pos (show (10000 : Int) = wrap64 (1 * 10000) by decide +kernel) (E.pos rfl (E.pos rfl vfin))))
  refine E.neg c3 ?_
  have e : ttxt a b s = (txt a b s, 0) := if_neg c4
  rw [e]
  refine E.pos rfl (E.pos ?_ vfin)
  unfold gdv at g
  unfold txt
  rw [if_neg c1, if_neg (c := a = 3) c3, if_neg (c := a = 4) c4]
  by_cases c2 : a = 2
  · rw [if_pos c2]
  · rw [if_neg c2]
    have : s.size = 0 := by omega
    rw [(nil_iff s).2 this]
    rw [ByteArray.toList_eq]
end Go.Proofs.YtdbahgjfbleocaaDoor.Pure
