/- So many months on and back again is the same month, and not a later day: for every number of uint's kind and every int. -/
import Derived.Test.YtemelfcpmbcnaaaDateE
import Derived.Test.YtemelfcpmbcnaaaPx2
import Derived.Test.YtemelfcpmbcnaaaPx5
import Derived.Test.YtemelfcpmbcnaaaPx8
namespace Go.Proofs.Ytemelfcpmbcnaaa.Pure
open Go.RowKit Go.Proofs.Ytemelfcpmbcnaaa.P Go.Proofs.Ytemelfcpmbcnaaa.Dt Go.Proofs.YtemelfcpmbcnaaaW.PrintWords Go.Proofs.YtemelfcpmbcnaaaW.PrintLast
set_option linter.unusedVariables false
set_option linter.unusedSimpArgs false

theorem DateMonths : octavolaw07_DateMonths.Pure := by
  intro n k w w2
  have b := E.wfu64 w
  refine Ev.rounds (r := true) ?_
  unfold octavolaw07_DateMonths.f
  rw [(tm n 2958464 (by omega)).1 b.1]
  have hm : 0 ≤ n % 2958464 ∧ n % 2958464 < 2958464 := by omega
  generalize n % 2958464 = x at hm
  rw [E.w64 (x := x) (by omega) (by omega), E.w64 (x := 1 + x) (by omega) (by omega)]
  generalize hA : 1 + x = a
  have ha : 1 ≤ a ∧ a ≤ 2958464 := by omega
  clear hA
  obtain ⟨y, m, d, hi⟩ := Is_ex ha.1 ha.2
  have fin : Ev (fun n => (octavolaw07_lives.f n).bind fun t => some t) true := Ev.bind lives_is (Ev.now _)
  have far : (k < -100000 ∨ 100000 < k) → Ev (fun j => octavolaw07_DateMonths.j0 j k a true) true := fun h => by
    refine E.succ ?_
    simp only [octavolaw07_DateMonths.j0]
    exact E.pos trivial (Ev.bind (Months_far false hi h) (E.neg (by simp) fin))
  refine E.ite (fun h => far (by omega)) (fun h => ?_)
  by_cases h2 : k > 100000
  · rw [decide_eq_true h2]
    exact far (by omega)
  · rw [decide_eq_false h2]
    refine E.succ ?_
    simp only [octavolaw07_DateMonths.j0]
    refine E.neg (by simp) ?_
    have g := hi
    obtain ⟨g1, g2, g3, g4, g5, g6, g7⟩ := g
    have q := Months_is (n := k) false hi (by omega) (by omega)
    have lb := last_bd y m g3 g4
    have qm : 1 ≤ (m + k - 1) % 12 + 1 ∧ (m + k - 1) % 12 + 1 ≤ 12 := by omega
    have lb1 := last_bd (y + (m + k - 1) / 12) ((m + k - 1) % 12 + 1) qm.1 qm.2
    have ey : y + (m + k - 1) / 12 + ((m + k - 1) % 12 + 1 + -k - 1) / 12 = y := by omega
    have em : ((m + k - 1) % 12 + 1 + -k - 1) % 12 + 1 = m := by omega
    have back : ∀ (d1 : Int), 1 ≤ d1 → d1 ≤ d → d - d1 < 4 → d1 ≤ last (y + (m + k - 1) / 12) ((m + k - 1) % 12 + 1) → Ev (fun j => date_Months.f j a k false) (day (y + (m + k - 1) / 12) ((m + k - 1) % 12 + 1) d1) →
        Ev (fun j => (date_Months.f j a k false).bind fun bt245 => (if bt245.2 = true then ((date_Months.f j bt245.1 (wrap64 (-k)) false).bind fun bt247 => ((date_Months.f j a 0 true).bind fun bt249 => (if bt247.2 = true then (if bt249.2 = true then (if bt247.1 ≤ a then (if (wrap64 (a - bt247.1)) < 4 then (if bt249.1 ≥ a then ((octavolaw07_lives.f j).bind fun t251 => (some t251)) else (some false)) else (some false)) else (some false)) else (some false)) else (some false)))) else ((octavolaw07_lives.f j).bind fun t252 => (some t252)))) true := by
      intro d1 k1 k2 k3 k4 q
      by_cases c : 1900 ≤ y + (m + k - 1) / 12 ∧ y + (m + k - 1) / 12 ≤ 9999
      · rw [day_yes c.1 c.2 k1 k4] at q
        refine Ev.bind q (E.pos rfl ?_)
        have q2 := Months_is (n := -k) (a := dn (y + (m + k - 1) / 12) ((m + k - 1) % 12 + 1) d1) false ⟨c.1, c.2, qm.1, qm.2, k1, k4, rfl⟩ (by omega) (by omega)
        unfold mon at q2
        simp only [ey, em] at q2
        rw [if_neg (by simp; omega), day_yes g1 g2 k1 (by omega)] at q2
        have q3 := Months_is (n := 0) true hi (by omega) (by omega)
        unfold mon at q3
        simp only [show y + (m + 0 - 1) / 12 = y by omega, show (m + 0 - 1) % 12 + 1 = m by omega] at q3
        rw [if_pos (.inl trivial), day_yes g1 g2 (by omega) (by omega)] at q3
        have db := dn_bd (y := y) (m := m) (d := d1) g1 g2 k1 (by omega)
        rw [E.w64 (x := -k) (by omega) (by omega)]
        have e1 : dn y m d1 = a - (d - d1) := by rw [← g7]; unfold dn; omega
        have e2 : dn y m (last y m) = a + (last y m - d) := by rw [← g7]; unfold dn; omega
        rw [e1] at q2 db
        rw [e2] at q3
        refine Ev.bind q2 (Ev.bind q3 (E.pos rfl (E.pos rfl (E.pos (by show a - (d - d1) ≤ a; omega) (E.pos ?_ (E.pos (by show a + (last y m - d) ≥ a; omega) fin))))))
        show wrap64 (a - (a - (d - d1))) < 4
        rw [E.w64 (by omega) (by omega)]
        omega
      · rw [day_no (by omega)] at q
        exact Ev.bind q (E.neg (by simp) fin)
    unfold mon at q
    by_cases c : last (y + (m + k - 1) / 12) ((m + k - 1) % 12 + 1) < d
    · rw [if_pos (.inr c)] at q
      exact back _ (by omega) (by omega) (by omega) (by omega) q
    · rw [if_neg (by simp; omega)] at q
      exact back _ (by omega) (by omega) (by omega) (by omega) q
end Go.Proofs.Ytemelfcpmbcnaaa.Pure
