/- The day of any date, and how long its month is, are the document's: for every year, month and day of int's kind. -/
import Derived.Test.YtemelfcpmbcnaaaDateE
import Derived.Test.YtemelfcpmbcnaaaPx1
import Derived.Test.YtemelfcpmbcnaaaPx8
import Derived.Test.YtemelfcpmbcnaaaPx9
namespace Go.Proofs.Ytemelfcpmbcnaaa.Pure
open Go.RowKit Go.Proofs.Ytemelfcpmbcnaaa.P Go.Proofs.Ytemelfcpmbcnaaa.Dt Go.Proofs.YtemelfcpmbcnaaaW.PrintWords Go.Proofs.YtemelfcpmbcnaaaW.PrintLast
set_option linter.unusedVariables false
set_option linter.unusedSimpArgs false

theorem d_step {y m d i x : Int} {r : Int × Bool} (hi : 0 ≤ i) (h3 : i < 3) (hx : rd ([y, m, d] : List Int) i = x) (no : (x < -100000 ∨ 100000 < x) → (0, false) = r) (yes : -100000 ≤ x → x ≤ 100000 → Ev (fun k => date_Of.l0 k y m d (i + 1)) r) : Ev (fun k => date_Of.l0 k y m d i) r := by
  refine E.succ (E.pos h3 (E.pos hi ?_))
  rw [hx, E.w64 (x := i + 1) (by omega) (by omega)]
  exact E.ite (fun c => E.now (no (by omega))) (fun c => E.ite (fun c2 => E.now (no (by omega))) (fun c2 => yes (by omega) (by omega)))
theorem r_step {y m d i x : Int} {r : Int × Bool} (hi : 0 ≤ i) (h3 : i < 3) (hx : rd ([y, m, d] : List Int) i = x) (no : (x < -100000 ∨ 100000 < x) → (0, false) = r) (yes : -100000 ≤ x → x ≤ 100000 → Ev (fun k => octavoref07_Of.l0 k y m d (i + 1)) r) : Ev (fun k => octavoref07_Of.l0 k y m d i) r := by
  refine E.succ (E.pos h3 (E.pos hi ?_))
  rw [hx, E.w64 (x := i + 1) (by omega) (by omega)]
  exact E.ite (fun c => E.now (no (by omega))) (fun c => E.ite (fun c2 => E.now (no (by omega))) (fun c2 => yes (by omega) (by omega)))
theorem ofs (y m d : Int) (b1 : -9223372036854775808 ≤ y ∧ y ≤ 9223372036854775807) (b2 : -9223372036854775808 ≤ m ∧ m ≤ 9223372036854775807) (b3 : -9223372036854775808 ≤ d ∧ d ≤ 9223372036854775807) : ∃ r, Ev (fun k => date_Of.f k y m d) r ∧ Ev (fun k => octavoref07_Of.f k y m d) r := by
  have r0 : rd ([y, m, d] : List Int) 0 = y := rfl
  have r1 : rd ([y, m, d] : List Int) 1 = m := rfl
  have r2 : rd ([y, m, d] : List Int) 2 = d := rfl
  by_cases c : -100000 ≤ y ∧ y ≤ 100000 ∧ -100000 ≤ m ∧ m ≤ 100000 ∧ -100000 ≤ d ∧ d ≤ 100000
  · obtain ⟨c1, c2, c3, c4, c5, c6⟩ := c
    have e : ∃ r, Ev (fun k => date_Of.l0 k y m d 3) r ∧ Ev (fun k => octavoref07_Of.l1 k y m d) r := by
      have car := carried_is (y := y) (m := m) (by omega) (by omega) (by omega) (by omega)
      have r_l2 : ∀ (r : Int × Bool), Ev (fun k => octavoref07_Of.j3 k (y + (m - 1) / 12) ((m - 1) % 12 + 1) d (decide (y + (m - 1) / 12 > 9999))) r → ¬ y + (m - 1) / 12 < 1900 → ∀ (n : Nat) (y' m' : Int), y' + (m' - 1) / 12 = y + (m - 1) / 12 → (m' - 1) % 12 + 1 = (m - 1) % 12 + 1 → 1 ≤ m' → m' ≤ 300000 → -300000 ≤ y' → y' ≤ 300000 → m'.toNat ≤ n → Ev (fun k => octavoref07_Of.l2 k y' m' d) r := by
        intro r hr hy n
        induction n with
        | zero => intro y' m' _ _ h _ _ _ k; omega
        | succ n ih =>
          intro y' m' e1 e2 h1 h2 h3 h4 k
          refine E.succ (E.ite (fun c => ?_) (fun c => ?_))
          · simp (disch := omega) only [E.w64]
            exact ih (y' + 1) (m' - 12) (by omega) (by omega) (by omega) (by omega) (by omega) (by omega) (by omega)
          · have f1 : y' = y + (m - 1) / 12 := by omega
            have f2 : m' = (m - 1) % 12 + 1 := by omega
            subst f1
            subst f2
            exact E.neg hy hr
      have r_l2' : y + (m - 1) / 12 < 1900 → ∀ (n : Nat) (y' m' : Int), y' + (m' - 1) / 12 = y + (m - 1) / 12 → (m' - 1) % 12 + 1 = (m - 1) % 12 + 1 → 1 ≤ m' → m' ≤ 300000 → -300000 ≤ y' → y' ≤ 300000 → m'.toNat ≤ n → Ev (fun k => octavoref07_Of.l2 k y' m' d) (0, false) := by
        intro hy n
        induction n with
        | zero => intro y' m' _ _ h _ _ _ k; omega
        | succ n ih =>
          intro y' m' e1 e2 h1 h2 h3 h4 k
          refine E.succ (E.ite (fun c => ?_) (fun c => ?_))
          · simp (disch := omega) only [E.w64]
            exact ih (y' + 1) (m' - 12) (by omega) (by omega) (by omega) (by omega) (by omega) (by omega) (by omega)
          · refine E.pos (by omega) (E.succ ?_)
            simp only [octavoref07_Of.j3]
            exact E.pos trivial (Ev.now _)
      have r_l1 : ∀ (r : Int × Bool), (∀ (y' m' : Int), y' + (m' - 1) / 12 = y + (m - 1) / 12 → (m' - 1) % 12 + 1 = (m - 1) % 12 + 1 → 1 ≤ m' → m' ≤ 300000 → -300000 ≤ y' → y' ≤ 300000 → Ev (fun k => octavoref07_Of.l2 k y' m' d) r) → ∀ (n : Nat) (y' m' : Int), y' + (m' - 1) / 12 = y + (m - 1) / 12 → (m' - 1) % 12 + 1 = (m - 1) % 12 + 1 → -100000 ≤ m' → m' ≤ 100000 → -250000 ≤ y' + m' → y' ≤ 100000 → -300000 ≤ y' → (1 - m').toNat ≤ n → Ev (fun k => octavoref07_Of.l1 k y' m' d) r := by
        intro r hr n
        induction n with
        | zero => intro y' m' e1 e2 h1 h2 h3 h4 h5 k; exact E.succ (E.neg (by omega) (hr y' m' e1 e2 (by omega) (by omega) (by omega) (by omega)))
        | succ n ih =>
          intro y' m' e1 e2 h1 h2 h3 h4 h5 k
          refine E.succ (E.ite (fun c => ?_) (fun c => hr y' m' e1 e2 (by omega) (by omega) (by omega) (by omega)))
          simp (disch := omega) only [E.w64]
          exact ih (y' - 1) (m' + 12) (by omega) (by omega) (by omega) (by omega) (by omega) (by omega) (by omega) (by omega)
      have hm' : 1 ≤ (m - 1) % 12 + 1 ∧ (m - 1) % 12 + 1 ≤ 12 := by omega
      by_cases cy : 1900 ≤ y + (m - 1) / 12 ∧ y + (m - 1) / 12 ≤ 9999
      · have fb := fst_bd cy.1 cy.2 hm'.1 hm'.2
        have lb := last_bd (y + (m - 1) / 12) ((m - 1) % 12 + 1) hm'.1 hm'.2
        have q := Day_is (y + (m - 1) / 12) ((m - 1) % 12 + 1) 1
        rw [day_yes cy.1 cy.2 (by omega) (by omega)] at q
        have dd : dn (y + (m - 1) / 12) ((m - 1) % 12 + 1) 1 = fst (y + (m - 1) / 12) ((m - 1) % 12 + 1) + 1 := rfl
        rw [dd] at q
        generalize hF : fst (y + (m - 1) / 12) ((m - 1) % 12 + 1) = F at *
        refine ⟨if 1 ≤ F + d ∧ F + d ≤ 2958464 then (F + d, true) else (0, false), ?_, ?_⟩
        · refine E.succ (E.neg (by omega) (E.bindn car (Ev.bind q (E.pos rfl ?_))))
          have w : wrap64 (wrap64 (F + 1 + d) - 1) = F + d := by
            rw [E.w64 (x := F + 1 + d) (by omega) (by omega), E.w64 (by omega) (by omega)]; omega
          show Ev (fun _ => (date_good.f (wrap64 (wrap64 (F + 1 + d) - 1))).bind fun t257 => if t257 = true then some (wrap64 (wrap64 (F + 1 + d) - 1), true) else some (0, false)) _
          rw [w]
          refine E.bindn (good_is _) ?_
          by_cases cc : 1 ≤ F + d ∧ F + d ≤ 2958464
          · rw [if_pos cc]
            exact E.pos (decide_eq_true cc) (Ev.now _)
          · rw [if_neg cc]
            exact E.neg (by simpa using cc) (Ev.now _)
        · refine r_l1 _ (fun y' m' g1 g2 g3 g4 g5 g6 => r_l2 _ ?_ (by omega) m'.toNat y' m' g1 g2 g3 g4 g5 g6 (by omega)) (1 - m).toNat y m rfl rfl c3 c4 (by omega) c2 (by omega) (by omega)
          refine E.succ ?_
          simp only [octavoref07_Of.j3]
          have ff := first_is cy.1 cy.2 hm'.1 hm'.2
          rw [hF] at ff
          refine E.neg (by simp; omega) (Ev.bind ff ?_)
          rw [E.w64 (x := F + d) (by omega) (by omega)]
          by_cases cc : 1 ≤ F + d ∧ F + d ≤ 2958464
          · rw [if_pos cc]
            exact E.neg (by omega) (E.neg (by omega) (Ev.now _))
          · rw [if_neg cc]
            exact E.ite (fun _ => Ev.now _) (fun _ => E.pos (by omega) (Ev.now _))
      · have q := Day_is (y + (m - 1) / 12) ((m - 1) % 12 + 1) 1
        rw [day_no (by omega)] at q
        refine ⟨(0, false), E.succ (E.neg (by omega) (E.bindn car (Ev.bind q (E.neg (by simp) (Ev.now _))))), ?_⟩
        by_cases cz : y + (m - 1) / 12 < 1900
        · exact r_l1 _ (fun y' m' g1 g2 g3 g4 g5 g6 => r_l2' cz m'.toNat y' m' g1 g2 g3 g4 g5 g6 (by omega)) (1 - m).toNat y m rfl rfl c3 c4 (by omega) c2 (by omega) (by omega)
        · refine r_l1 _ (fun y' m' g1 g2 g3 g4 g5 g6 => r_l2 _ ?_ cz m'.toNat y' m' g1 g2 g3 g4 g5 g6 (by omega)) (1 - m).toNat y m rfl rfl c3 c4 (by omega) c2 (by omega) (by omega)
          refine E.succ ?_
          simp only [octavoref07_Of.j3]
          exact E.pos (by simp; omega) (Ev.now _)
    obtain ⟨r, e1, e2⟩ := e
    refine ⟨r, ?_, ?_⟩
    · unfold date_Of.f
      exact d_step (by omega) (by omega) r0 (fun h => by omega) (fun _ _ => d_step (by omega) (by omega) r1 (fun h => by omega) (fun _ _ => d_step (by omega) (by omega) r2 (fun h => by omega) (fun _ _ => e1)))
    · unfold octavoref07_Of.f
      exact r_step (by omega) (by omega) r0 (fun h => by omega) (fun _ _ => r_step (by omega) (by omega) r1 (fun h => by omega) (fun _ _ => r_step (by omega) (by omega) r2 (fun h => by omega) (fun _ _ => E.succ (E.neg (by omega) e2))))
  · refine ⟨(0, false), ?_, ?_⟩
    · unfold date_Of.f
      exact d_step (by omega) (by omega) r0 (fun h => rfl) (fun _ _ => d_step (by omega) (by omega) r1 (fun h => rfl) (fun _ _ => d_step (by omega) (by omega) r2 (fun h => rfl) (fun _ _ => by omega)))
    · unfold octavoref07_Of.f
      exact r_step (by omega) (by omega) r0 (fun h => rfl) (fun _ _ => r_step (by omega) (by omega) r1 (fun h => rfl) (fun _ _ => r_step (by omega) (by omega) r2 (fun h => rfl) (fun _ _ => by omega)))

theorem DateDays : octavolaw07_DateDays.Pure := by
  intro y m d w1 w2 w3
  obtain ⟨r, o1, o2⟩ := ofs y m d (E.wf64 w1) (E.wf64 w2) (E.wf64 w3)
  refine Ev.rounds (r := true) ?_
  unfold octavolaw07_DateDays.f
  refine Ev.bind (Day_is y m d) (Ev.bind (rDay_is y m d) (Ev.bind o1 (Ev.bind o2 (E.pos rfl (E.pos (by simp) (E.pos rfl (E.pos (by simp) (E.bindn (Leap_is y) (E.bindn (rLeap_is y) (E.pos (by simp) (Ev.bind (Last_is y m) (Ev.bind (rLast_is y m) (E.pos rfl (Ev.bind lives_is (Ev.now _)))))))))))))))
end Go.Proofs.Ytemelfcpmbcnaaa.Pure
