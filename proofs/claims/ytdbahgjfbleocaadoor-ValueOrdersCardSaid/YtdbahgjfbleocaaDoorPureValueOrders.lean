/- Cmp is an order of values that are no Blanks: for all values. -/
import Derived.Test.YtdbahgjfbleocaaDoorVlC
import Derived.Test.YtdbahgjfbleocaaDoorPx0
import Derived.Test.YtdbahgjfbleocaaDoorPx6
namespace Go.Proofs.YtdbahgjfbleocaaDoor.Pure
open Go.RowKit Go.Proofs.YtdbahgjfbleocaaDoor.P Go.Proofs.YtdbahgjfbleocaaDoor.Nm Go.Proofs.YtdbahgjfbleocaaDoor.Vl Go.Proofs.YtdbahgjfbleocaaDoorW.PrintWords Go.Proofs.YtdbahgjfbleocaaDoorW.PrintLast
set_option linter.unusedVariables false
set_option linter.unusedSimpArgs false

theorem ValueOrders : octavolaw06_ValueOrders.Pure := by
  intro a0 a1 a2 b0 b1 b2 c0 c1 c2 _ _ ha _ _ hb _ _ hc
  have t : Ev (fun k => octavolaw06_ValueOrders.j0 k true a0 a1 a2 b0 b1 b2 c0 c1 c2) true := by
    refine E.succ ?_
    simp only [octavolaw06_ValueOrders.j0]
    exact E.pos trivial vfin
  refine Ev.rounds (r := true) (E.ite (fun _ => t) (fun na => E.ite (fun _ => t) (fun nb => ?_)))
  by_cases nc : c0 = 0
  · rw [show (c0 == 0) = true from beq_iff_eq.2 nc]; exact t
  rw [show (c0 == 0) = false from beq_eq_false_iff_ne.2 nc]
  refine E.succ ?_
  simp only [octavolaw06_ValueOrders.j0]
  have ab := Cmp_is (a0 := a0) (a1 := a1) (b0 := b0) (b1 := b1) ha hb
  have ba := Cmp_is (a0 := b0) (a1 := b1) (b0 := a0) (b1 := a1) hb ha
  have aa := Cmp_is (a0 := a0) (a1 := a1) (b0 := a0) (b1 := a1) ha ha
  have bc := Cmp_is (a0 := b0) (a1 := b1) (b0 := c0) (b1 := c1) hb hc
  have ac := Cmp_is (a0 := a0) (a1 := a1) (b0 := c0) (b1 := c1) ha hc
  rw [cmp_nb na nb] at ab
  rw [cmp_nb nb na] at ba
  rw [cmp_nb na na, cp_self] at aa
  rw [cmp_nb nb nc] at bc
  rw [cmp_nb na nc] at ac
  generalize pl a0 a1 a2 1 = x at *
  generalize pl b0 b1 b2 1 = y at *
  generalize pl c0 c1 c2 1 = z at *
  have an := cp_anti x y
  have bd := cp_bd y x
  refine E.neg (by decide) (Ev.bind ab (Ev.bind ba (E.pos (by rw [E.w64 (by omega) (by omega)]; exact an) (Ev.bind aa ?_))))
  refine E.succ ?_
  simp only [octavolaw06_ValueOrders.j1]
  refine E.neg (by decide) (Ev.bind ab (E.ite (fun h => Ev.bind bc (E.ite (fun k => Ev.bind ac (E.neg ?_ vfin)) (fun _ => vfin))) (fun _ => vfin)))
  have := cp_trans x y z h k
  omega
end Go.Proofs.YtdbahgjfbleocaaDoor.Pure
