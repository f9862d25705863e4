/- All that is done with two ints is the document's: for all ints of int's kind. -/
import Derived.Test.YtficjmgofbdohaaDoorNumG
import Derived.Test.YtficjmgofbdohaaDoorNumH
import Derived.Test.YtficjmgofbdohaaDoorPx5
import Derived.Test.YtficjmgofbdohaaDoorPx9
namespace Go.Proofs.YtficjmgofbdohaaDoor.Pure
open Go.RowKit Go.Proofs.YtficjmgofbdohaaDoor.P Go.Proofs.YtficjmgofbdohaaDoor.Nm Go.Proofs.YtficjmgofbdohaaDoorW.PrintWords Go.Proofs.YtficjmgofbdohaaDoorW.PrintLast
set_option linter.unusedVariables false
set_option linter.unusedSimpArgs false

theorem rAdd_is (a b : Int) : octavoref05_Add.f a b = some (add a b) := by
  unfold octavoref05_Add.f add
  rw [rGood_is, rGood_is]
  by_cases ga : good a
  · by_cases gb : good b
    · rw [if_pos ⟨ga, gb⟩]
      simp only [Option.bind_some, decide_eq_true ga, decide_eq_true gb, if_true]
      unfold good at ga gb
      rw [E.w64 (x := a + b) (by omega) (by omega), rout_is]
      rfl
    · simp [ga, gb]
  · simp [ga]
theorem rSub_is (a b : Int) : octavoref05_Sub.f a b = some (add a (-b)) := by
  unfold octavoref05_Sub.f add
  rw [rGood_is, rGood_is]
  by_cases ga : good a
  · by_cases gb : good b
    · rw [if_pos (show good a ∧ good (-b) by unfold good at ga gb ⊢; omega)]
      simp only [Option.bind_some, decide_eq_true ga, decide_eq_true gb, if_true]
      unfold good at ga gb
      rw [E.w64 (x := a - b) (by omega) (by omega), rout_is]
      rfl
    · rw [if_neg (show ¬ (good a ∧ good (-b)) from fun h => gb (by have := h.2; unfold good at this ⊢; omega))]
      simp [ga, gb]
  · simp [ga]

theorem NumPairs : octavolaw05_NumPairs.Pure := by
  intro a b w1 w2
  obtain ⟨c, c1, c2⟩ := Comb_is a b (E.wf64 w1) (E.wf64 w2)
  obtain ⟨g, g1, g2⟩ := Gcd_is a b
  have j5 : Ev (fun k => octavolaw05_NumPairs.j5 k a b true) true := by
    refine E.succ ?_
    simp only [octavolaw05_NumPairs.j5]
    exact Ev.bind c1 (Ev.bind c2 (E.pos trivial (E.bindn (same_is _ _) (E.pos rfl (Ev.bind g1 (Ev.bind g2 (E.pos rfl (Ev.bind lives_is (Ev.now _)))))))))
  have j4 : Ev (fun k => octavolaw05_NumPairs.j4 k a b true) true := by
    refine E.succ ?_
    simp only [octavolaw05_NumPairs.j4]
    exact Ev.bind (Quo_is a b) (E.bindn (rQuo_is a b) (E.pos trivial (E.bindn (same_is _ _) j5)))
  have j3 : Ev (fun k => octavolaw05_NumPairs.j3 k a b true) true := by
    refine E.succ ?_
    simp only [octavolaw05_NumPairs.j3]
    exact Ev.bind (Mod_is a b) (Ev.bind (rMod_is a b) (E.pos trivial (E.bindn (same_is _ _) j4)))
  have j2 : Ev (fun k => octavolaw05_NumPairs.j2 k a b true) true := by
    refine E.succ ?_
    simp only [octavolaw05_NumPairs.j2]
    exact Ev.bind (Pow_is a b) (Ev.bind (rPow_is a b) (E.pos trivial (E.bindn (same_is _ _) j3)))
  have j1 : Ev (fun k => octavolaw05_NumPairs.j1 k a b true) true := by
    refine E.succ ?_
    simp only [octavolaw05_NumPairs.j1]
    exact Ev.bind (Div_is a b) (Ev.bind (rDiv_is a b) (E.pos trivial (E.bindn (same_is _ _) j2)))
  have j0 : Ev (fun k => octavolaw05_NumPairs.j0 k a b true) true := by
    refine E.succ ?_
    simp only [octavolaw05_NumPairs.j0]
    exact Ev.bind (Mul_is a b) (Ev.bind (rMul_is a b) (E.pos trivial (E.bindn (same_is _ _) j1)))
  exact Ev.rounds (r := true) (Ev.bind (Add_is a b) (E.bindn (rAdd_is a b) (E.bindn (same_is _ _) (Ev.bind (Sub_is a b) (E.bindn (rSub_is a b) (E.pos rfl (E.bindn (same_is _ _) j0)))))))
end Go.Proofs.YtficjmgofbdohaaDoor.Pure
