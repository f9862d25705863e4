/- A week's number changes on Mondays alone, by one, or back to 1: for every number of uint's kind. -/
import Derived.Test.YtemelfcpmbcnaaaDateE
import Derived.Test.YtemelfcpmbcnaaaPx2
import Derived.Test.YtemelfcpmbcnaaaPx4
namespace Go.Proofs.Ytemelfcpmbcnaaa.Pure
open Go.RowKit Go.Proofs.Ytemelfcpmbcnaaa.P Go.Proofs.Ytemelfcpmbcnaaa.Dt Go.Proofs.YtemelfcpmbcnaaaW.PrintWords Go.Proofs.YtemelfcpmbcnaaaW.PrintLast
set_option linter.unusedVariables false
set_option linter.unusedSimpArgs false

theorem DateWeeks : octavolaw07_DateWeeks.Pure := by
  intro n w
  have b := E.wfu64 w
  refine Ev.rounds (r := true) ?_
  unfold octavolaw07_DateWeeks.f
  rw [(tm n 2958463 (by omega)).1 b.1]
  have hm : 0 ≤ n % 2958463 ∧ n % 2958463 < 2958463 := by omega
  generalize n % 2958463 = x at hm
  rw [E.w64 (x := x) (by omega) (by omega), E.w64 (x := 1 + x) (by omega) (by omega), E.w64 (x := 1 + x + 1) (by omega) (by omega)]
  generalize hA : 1 + x = a
  have ha : 1 ≤ a ∧ a ≤ 2958463 := by omega
  clear hA
  have t1 := thu_bd (a := a) (by omega) (by omega)
  have t2 := thu_bd (a := a + 1) (by omega) (by omega)
  obtain ⟨y, m, d, hi⟩ := Is_ex (a := thu a) (by omega) (by omega)
  obtain ⟨y', m', d', hi'⟩ := Is_ex (a := thu (a + 1)) (by omega) (by omega)
  have wk1 := Week_is (by omega) (by omega) hi
  have wk2 := Week_is (by omega) (by omega) hi'
  refine Ev.bind wk1 (Ev.bind wk2 (E.bindn (Weekday_is (a + 1)) ?_))
  rw [if_pos (show 1 ≤ a + 1 ∧ a + 1 ≤ 2958464 by omega)]
  have g := hi
  obtain ⟨h1, h2, h3, h4, h5, h6, h7⟩ := g
  have c := cm_bd (leap y) h3 h4
  have nx := ah_next y
  rw [last_in h3 h4] at h6
  unfold dn at h7
  have g' := hi'
  obtain ⟨k1, k2, k3, k4, k5, k6, k7⟩ := g'
  have c' := cm_bd (leap y') k3 k4
  have nx' := ah_next y'
  rw [last_in k3 k4] at k6
  unfold dn at k7
  have fin : Ev (fun n => (octavolaw07_lives.f n).bind fun t => some t) true := Ev.bind lives_is (Ev.now _)
  have eb : ∀ l : Bool, (if l then (1 : Int) else 0) = 0 ∨ (if l then (1 : Int) else 0) = 1 := fun l => by cases l <;> simp
  have el := eb (leap y)
  have el' := eb (leap y')
  generalize (if leap y = true then (1 : Int) else 0) = q at *
  generalize (if leap y' = true then (1 : Int) else 0) = q' at *
  have bd := ah_bd h1 (by omega : y ≤ 10000)
  have bd' := ah_bd k1 (by omega : y' ≤ 10000)
  have ym : y' < y → ah y' + 365 ≤ ah y := fun h => by have := ah_mono h; split at this <;> omega
  have ym2 : y < y' → ah (y + 1) ≤ ah y' := fun h => by
    by_cases e : y + 1 = y'
    · rw [e]; omega
    · have := ah_mono (y := y + 1) (y' := y') (by omega); split at this <;> omega
  have e1 : thu a = a - (a - 1) % 7 + 3 := rfl
  have e2 : thu (a + 1) = a + 1 - (a + 1 - 1) % 7 + 3 := rfl
  refine E.ite (fun hmon => ?_) (fun hmon => ?_)
  · have et : thu (a + 1) = thu a + 7 := by omega
    by_cases ey : y' = y
    · subst ey
      refine E.pos ?_ fin
      rw [E.w64 (by omega) (by omega)]
      omega
    · have gy : y < y' := by
        by_cases z : y' < y
        · have := ym z; omega
        · omega
      have := ym2 gy
      have ey2 : y' = y + 1 := by
        by_cases z : y + 1 < y'
        · have := ah_mono (y := y + 1) (y' := y') z; split at this <;> omega
        · omega
      subst ey2
      have r1 : (thu (a + 1) - ah (y + 1) - 1) / 7 + 1 = 1 := by omega
      have r2 : (thu a - ah y - 1) / 7 + 1 ≥ 52 := by omega
      rw [r1]
      refine E.neg ?_ (E.pos rfl (E.pos r2 fin))
      rw [E.w64 (by omega) (by omega)]
      omega
  · have et : thu (a + 1) = thu a := by omega
    rw [et] at hi'
    obtain ⟨ey, _, _⟩ := hi'.uniq hi
    subst ey
    rw [et]
    exact E.pos rfl (E.pos (by omega) (E.pos (by omega) fin))
end Go.Proofs.Ytemelfcpmbcnaaa.Pure
