/- Dates by arithmetic: the reference's parts; months; weeks. -/
import Derived.Test.YtemelfcpmbcnaaaDateB
import Derived.Test.YtemelfcpmbcnaaaPx2
import Derived.Test.YtemelfcpmbcnaaaPx4
import Derived.Test.YtemelfcpmbcnaaaPx5
import Derived.Test.YtemelfcpmbcnaaaPx6
namespace Go.Proofs.Ytemelfcpmbcnaaa.Dt
open Go.RowKit Go.Proofs.Ytemelfcpmbcnaaa.P Go.Proofs.YtemelfcpmbcnaaaW.PrintWords Go.Proofs.YtemelfcpmbcnaaaW.PrintLast
set_option linter.unusedVariables false
set_option linter.unusedSimpArgs false

theorem fst1 (y : Int) : fst y 1 = ah y := by unfold fst; cases leap y <;> simp [cm]
theorem fst_next {y m : Int} (h : 1 ≤ m) (k : m ≤ 12) : fst y (m + 1) = fst y m + last y m := by
  unfold fst
  rw [cm_next _ h k, last_in h k]
  omega
theorem rmonths {a y m d : Int} (h : Is a y m d) : ∀ (n : Nat) (j : Int), 1 ≤ j → j ≤ m → m - j = n → Ev (fun k => octavoref07_Parts.l1 k a y j) (y, m, d, true) := by
  obtain ⟨h1, h2, h3, h4, h5, h6, h7⟩ := h
  have e : fst y m + d = a := h7
  intro n
  induction n with
  | zero =>
    intro j hj hm hn
    have : j = m := by omega
    subst this
    have a1 := fst_bd h1 h2 h3 h4
    have b := last_bd y j h3 h4
    have fin : Ev (fun k => (octavoref07_first.f k y j).bind fun t166 => (some (y, j, wrap64 (a - t166), true))) (y, j, d, true) := by
      refine Ev.bind (first_is h1 h2 h3 h4) (E.now ?_)
      rw [E.w64 (by omega) (by omega)]
      simp only [Prod.mk.injEq, and_true, true_and]
      omega
    refine E.succ (E.ite (fun c => ?_) (fun c => fin))
    rw [E.w64 (x := j + 1) (by omega) (by omega)]
    have nx := fst_next (y := y) h3 (by omega)
    exact Ev.bind (first_is h1 h2 (by omega) (by omega)) (E.neg (by omega) fin)
  | succ n ih =>
    intro j hj hm hn
    refine E.succ (E.pos (by omega) ?_)
    rw [E.w64 (x := j + 1) (by omega) (by omega)]
    have mono : fst y (j + 1) ≤ fst y m := by
      by_cases c : j + 1 = m
      · rw [c]; omega
      · have := cm_mono (leap y) (m := j + 1) (m' := m) (by omega) h4 (by omega)
        have b := last_bd y (j + 1) (by omega) (by omega)
        rw [last_in (by omega) (by omega)] at b
        unfold fst
        omega
    exact Ev.bind (first_is h1 h2 (by omega) (by omega)) (E.pos (by omega) (ih (j + 1) (by omega) (by omega) (by omega)))
theorem ryears {a y m d : Int} (h : Is a y m d) : ∀ (n : Nat) (lo hi : Int), 1900 ≤ lo → hi ≤ 9999 → lo ≤ y → y ≤ hi → (hi - lo).toNat ≤ n → Ev (fun k => octavoref07_Parts.l0 k a lo hi) (y, m, d, true) := by
  have hh := h
  obtain ⟨h1, h2, h3, h4, h5, h6, h7⟩ := h
  have b := cm_bd (leap y) h3 h4
  have nx := ah_next y
  rw [last_in h3 h4] at h6
  unfold dn at h7
  intro n
  induction n with
  | zero =>
    intro lo hi hl hh' ha hb _
    have : lo = y := by omega
    subst this
    exact E.succ (E.neg (by omega) (rmonths hh (m - 1).toNat 1 (by omega) (by omega) (by omega)))
  | succ n ih =>
    intro lo hi hl hh' ha hb hn
    refine E.succ (E.ite (fun c => ?_) (fun c => ?_))
    · simp (disch := omega) only [E.w64, td]
      refine E.bindn (ahead_is (by omega) (by omega)) (E.ite (fun c2 => ?_) (fun c2 => ?_))
      · refine ih _ _ (by omega) (by omega) ?_ (by omega) (by omega)
        by_cases e : y < (lo + hi + 1) / 2
        · have := ah_mono e; omega
        · omega
      · refine ih _ _ (by omega) (by omega) (by omega) ?_ (by omega)
        by_cases e : y ≤ (lo + hi + 1) / 2 - 1
        · omega
        · exfalso
          by_cases e2 : y = (lo + hi + 1) / 2
          · rw [← e2] at c2; omega
          · have := ah_mono (y := (lo + hi + 1) / 2) (y' := y) (by omega); omega
    · have : lo = y := by omega
      subst this
      exact rmonths hh (m - 1).toNat 1 (by omega) (by omega) (by omega)
theorem rParts_is {a y m d : Int} (h : Is a y m d) : Ev (fun k => octavoref07_Parts.f k a) (y, m, d, true) := by
  have r := h.range
  unfold octavoref07_Parts.f
  refine E.neg (by omega) (E.succ ?_)
  simp only [octavoref07_Parts.j0]
  exact E.neg (by simp; omega) (ryears h 8099 1900 9999 (by omega) (by omega) h.1 h.2.1 (by omega))
theorem rParts_no {a : Int} (h : a < 1 ∨ 2958464 < a) : Ev (fun k => octavoref07_Parts.f k a) (0, 0, 0, false) := by
  unfold octavoref07_Parts.f
  by_cases c : a < 1
  · refine E.pos c (E.succ ?_)
    simp only [octavoref07_Parts.j0]
    exact E.pos trivial (Ev.now _)
  · refine E.neg c (E.succ ?_)
    simp only [octavoref07_Parts.j0]
    exact E.pos (by simp; omega) (Ev.now _)

/-! ### months -/
theorem tm (x : Int) (n : Int) (_ : 0 < n) : (0 ≤ x → Int.tmod x n = x % n) ∧ (x < 0 → Int.tmod x n = - ((-x) % n) ∧ Int.tdiv x n = - ((-x) / n)) := by
  refine ⟨fun h => Int.tmod_eq_emod_of_nonneg h, fun h => ?_⟩
  have e : x = -(-x) := by omega
  constructor
  · rw [e, Int.neg_tmod, Int.tmod_eq_emod_of_nonneg (by omega)]; simp
  · rw [e, Int.neg_tdiv, Int.tdiv_eq_ediv_of_nonneg (by omega)]; simp
theorem carried_is {y m : Int} (h1 : -1000000 ≤ y) (h2 : y ≤ 1000000) (h3 : -1000000 ≤ m) (h4 : m ≤ 1000000) : date_carried.f y m = some (y + (m - 1) / 12, (m - 1) % 12 + 1) := by
  unfold date_carried.f
  rw [E.w64 (x := m - 1) (by omega) (by omega)]
  have t := tm (m - 1) 12 (by omega)
  by_cases c : 0 ≤ m - 1
  · rw [t.1 c, td _ c, if_neg (by omega)]
    simp (disch := omega) only [E.w64]
    simp only [Option.some.injEq, Prod.mk.injEq, true_and]
    omega
  · obtain ⟨t1, t2⟩ := t.2 (by omega)
    rw [t1, t2]
    by_cases c2 : -(-(m - 1) % 12) < 0
    · rw [if_pos c2]
      simp (disch := omega) only [E.w64]
      simp only [Option.some.injEq, Prod.mk.injEq]
      omega
    · rw [if_neg c2]
      simp (disch := omega) only [E.w64]
      simp only [Option.some.injEq, Prod.mk.injEq]
      omega
def mon (y m d n : Int) (e : Bool) : Int × Bool :=
  let y' := y + (m + n - 1) / 12; let m' := (m + n - 1) % 12 + 1
  if e ∨ last y' m' < d then day y' m' (last y' m') else day y' m' d
theorem Months_is {a y m d n : Int} (e : Bool) (h : Is a y m d) (h1 : -100000 ≤ n) (h2 : n ≤ 100000) : Ev (fun k => date_Months.f k a n e) (mon y m d n e) := by
  have g := h
  obtain ⟨g1, g2, g3, g4, g5, g6, g7⟩ := g
  unfold date_Months.f
  refine Ev.bind (Parts_is h) (E.pos rfl (E.neg (by omega) (E.succ ?_)))
  simp only [date_Months.j0]
  refine E.neg (by simp; omega) ?_
  rw [E.w64 (x := m + n) (by omega) (by omega)]
  refine E.bindn (carried_is (by omega) (by omega) (by omega) (by omega)) (Ev.bind (Last_is _ _) ?_)
  unfold mon
  cases e with
  | true => exact E.pos rfl (Ev.bind (Day_is _ _ _) (E.now (by simp)))
  | false =>
    refine E.neg (by simp) (Ev.bind (Day_is _ _ _) (E.now ?_))
    simp only [Bool.false_eq_true, false_or, mn]
    split <;> rfl
theorem Months_no {a n : Int} (e : Bool) (h : a < 1 ∨ 2958464 < a) : Ev (fun k => date_Months.f k a n e) (0, false) := by
  unfold date_Months.f
  refine Ev.bind (Parts_no h) (E.neg (by simp) (E.succ ?_))
  simp only [date_Months.j0]
  exact E.pos trivial (Ev.now _)
theorem Months_far {a y m d n : Int} (e : Bool) (h : Is a y m d) (k : n < -100000 ∨ 100000 < n) : Ev (fun k => date_Months.f k a n e) (0, false) := by
  unfold date_Months.f
  refine Ev.bind (Parts_is h) (E.pos rfl ?_)
  by_cases c : n < -100000
  · refine E.pos c (E.succ ?_)
    simp only [date_Months.j0]
    exact E.pos trivial (Ev.now _)
  · refine E.neg c (E.succ ?_)
    simp only [date_Months.j0]
    exact E.pos (by simp; omega) (Ev.now _)
theorem rm1 (e : Bool) {d : Int} : ∀ (n : Nat) (y m : Int), -1000000 ≤ y → y ≤ 1000000 → 1 ≤ m → m ≤ 1000000 → m + y ≤ 1000000 → m.toNat ≤ n → Ev (fun k => octavoref07_Months.l1 k e y m d) (if e ∨ last (y + (m - 1) / 12) ((m - 1) % 12 + 1) < d then day (y + (m - 1) / 12) ((m - 1) % 12 + 1) (last (y + (m - 1) / 12) ((m - 1) % 12 + 1)) else day (y + (m - 1) / 12) ((m - 1) % 12 + 1) d) := by
  intro n
  induction n with
  | zero => intro y m _ _ h _ _ k; omega
  | succ n ih =>
    intro y m h1 h2 h3 h4 h5 k
    refine E.succ (E.ite (fun c => ?_) (fun c => ?_))
    · simp (disch := omega) only [E.w64]
      have e1 : y + 1 + (m - 12 - 1) / 12 = y + (m - 1) / 12 := by omega
      have e2 : (m - 12 - 1) % 12 + 1 = (m - 1) % 12 + 1 := by omega
      have := ih (y + 1) (m - 12) (by omega) (by omega) (by omega) (by omega) (by omega) (by omega)
      rw [e1, e2] at this
      exact this
    · have e1 : y + (m - 1) / 12 = y := by omega
      have e2 : (m - 1) % 12 + 1 = m := by omega
      rw [e1, e2]
      refine Ev.bind (rLast_is y m) ?_
      cases e with
      | true => exact E.pos rfl (Ev.bind (rDay_is _ _ _) (E.now (by simp)))
      | false =>
        refine E.neg (by simp) (E.ite (fun c2 => ?_) (fun c2 => ?_))
        · rw [if_pos (.inr c2)]
          exact Ev.bind (rDay_is _ _ _) (E.now rfl)
        · rw [if_neg (by simp; omega)]
          exact Ev.bind (rDay_is _ _ _) (E.now rfl)
theorem rm0 (e : Bool) {d : Int} : ∀ (n : Nat) (y m : Int), y ≤ 500000 → -1000000 ≤ m → m ≤ 500000 → -500000 ≤ y + m → (1 - m).toNat ≤ n → Ev (fun k => octavoref07_Months.l0 k e y m d) (if e ∨ last (y + (m - 1) / 12) ((m - 1) % 12 + 1) < d then day (y + (m - 1) / 12) ((m - 1) % 12 + 1) (last (y + (m - 1) / 12) ((m - 1) % 12 + 1)) else day (y + (m - 1) / 12) ((m - 1) % 12 + 1) d) := by
  intro n
  induction n with
  | zero =>
    intro y m h2 h3 h4 h5 k
    exact E.succ (E.neg (by omega) (rm1 e m.toNat y m (by omega) (by omega) (by omega) (by omega) (by omega) (by omega)))
  | succ n ih =>
    intro y m h2 h3 h4 h5 k
    refine E.succ (E.ite (fun c => ?_) (fun c => ?_))
    · simp (disch := omega) only [E.w64]
      have e1 : y - 1 + (m + 12 - 1) / 12 = y + (m - 1) / 12 := by omega
      have e2 : (m + 12 - 1) % 12 + 1 = (m - 1) % 12 + 1 := by omega
      have := ih (y - 1) (m + 12) (by omega) (by omega) (by omega) (by omega) (by omega)
      rw [e1, e2] at this
      exact this
    · exact rm1 e m.toNat y m (by omega) (by omega) (by omega) (by omega) (by omega) (by omega)
theorem rMonths_is {a y m d n : Int} (e : Bool) (h : Is a y m d) (h1 : -100000 ≤ n) (h2 : n ≤ 100000) : Ev (fun k => octavoref07_Months.f k a n e) (mon y m d n e) := by
  have g := h
  obtain ⟨g1, g2, g3, g4, g5, g6, g7⟩ := g
  unfold octavoref07_Months.f
  refine Ev.bind (rParts_is h) (E.pos rfl (E.neg (by omega) (E.succ ?_)))
  simp only [octavoref07_Months.j0]
  refine E.neg (by simp; omega) ?_
  rw [E.w64 (x := m + n) (by omega) (by omega)]
  exact rm0 e (1 - (m + n)).toNat y (m + n) (by omega) (by omega) (by omega) (by omega) (by omega)
theorem rMonths_no {a n : Int} (e : Bool) (h : a < 1 ∨ 2958464 < a) : Ev (fun k => octavoref07_Months.f k a n e) (0, false) := by
  unfold octavoref07_Months.f
  refine Ev.bind (rParts_no h) (E.neg (by simp) (E.succ ?_))
  simp only [octavoref07_Months.j0]
  exact E.pos trivial (Ev.now _)
theorem rMonths_far {a y m d n : Int} (e : Bool) (h : Is a y m d) (k : n < -100000 ∨ 100000 < n) : Ev (fun k => octavoref07_Months.f k a n e) (0, false) := by
  unfold octavoref07_Months.f
  refine Ev.bind (rParts_is h) (E.pos rfl ?_)
  by_cases c : n < -100000
  · refine E.pos c (E.succ ?_)
    simp only [octavoref07_Months.j0]
    exact E.pos trivial (Ev.now _)
  · refine E.neg c (E.succ ?_)
    simp only [octavoref07_Months.j0]
    exact E.pos (by simp; omega) (Ev.now _)

/-! ### weeks -/
theorem Weekday_is (a : Int) : date_Weekday.f a = some (if 1 ≤ a ∧ a ≤ 2958464 then a % 7 + 1 else 0) := by
  unfold date_Weekday.f
  rw [good_is]
  simp only [Option.bind_some]
  by_cases c : 1 ≤ a ∧ a ≤ 2958464
  · rw [if_pos (decide_eq_true c), if_pos c, (tm a 7 (by omega)).1 (by omega), E.w64 (by omega) (by omega)]
  · rw [if_neg (by simpa using c), if_neg c]
theorem rWeekday_is (a : Int) : octavoref07_Weekday.f a = some (if 1 ≤ a ∧ a ≤ 2958464 then a % 7 + 1 else 0) := by
  unfold octavoref07_Weekday.f
  by_cases c : a < 1
  · rw [if_pos c, if_neg (by omega)]
  · rw [if_neg c]
    by_cases c2 : a > 2958464
    · rw [if_pos c2, if_neg (by omega)]
    · rw [if_neg c2, if_pos (by omega), (tm a 7 (by omega)).1 (by omega), E.w64 (by omega) (by omega)]
def thu (a : Int) : Int := a - (a - 1) % 7 + 3
theorem thu_bd {a : Int} (h : 1 ≤ a) (k : a ≤ 2958464) : 4 ≤ thu a ∧ thu a ≤ 2958464 := by unfold thu; omega
theorem Week_is {a y m d : Int} (h : 1 ≤ a) (k : a ≤ 2958464) (hi : Is (thu a) y m d) : Ev (fun n => date_Week.f n a) ((thu a - ah y - 1) / 7 + 1) := by
  have b := thu_bd h k
  have e : thu a = a - (a - 1) % 7 + 3 := rfl
  unfold date_Week.f
  refine E.bindn (good_is a) (E.pos (by simp; omega) ?_)
  rw [E.w64 (x := a - 1) (by omega) (by omega), (tm (a - 1) 7 (by omega)).1 (by omega), E.w64 (x := a - (a - 1) % 7) (by omega) (by omega), E.w64 (x := a - (a - 1) % 7 + 3) (by omega) (by omega), ← e]
  have q := Day_is y 1 1
  obtain ⟨h1, h2, h3, h4, h5, h6, h7⟩ := hi
  have f := fst_bd h1 h2 (m := 1) (by omega) (by omega)
  rw [fst1] at f
  have c := cm_bd (leap y) h3 h4
  unfold dn at h7
  have e1 : dn y 1 1 = ah y + 1 := by unfold dn; cases leap y <;> simp [cm]
  rw [day_yes h1 h2 (by omega) (by show (1 : Int) ≤ 31; omega), e1] at q
  refine Ev.bind (Parts_is ⟨h1, h2, h3, h4, h5, h6, h7⟩) (Ev.bind q (E.now ?_))
  show wrap64 (wrap64 (Int.tdiv (wrap64 (thu a - (ah y + 1))) 7) + 1) = _
  rw [E.w64 (x := thu a - (ah y + 1)) (by omega) (by omega), td _ (by omega), E.w64 (x := _ / 7) (by omega) (by omega), E.w64 (by omega) (by omega)]
  omega
theorem Week_no {a : Int} (h : a < 1 ∨ 2958464 < a) : Ev (fun n => date_Week.f n a) 0 := by
  unfold date_Week.f
  exact E.bindn (good_is a) (E.neg (by simp; omega) (Ev.now _))
theorem rWeek_is {a y m d : Int} (h : 1 ≤ a) (k : a ≤ 2958464) (hi : Is (thu a) y m d) : Ev (fun n => octavoref07_Week.f n a) ((thu a - ah y - 1) / 7 + 1) := by
  have b := thu_bd h k
  have e : thu a = a - (a + 6) % 7 + 3 := by unfold thu; omega
  unfold octavoref07_Week.f
  refine E.neg (by omega) (E.succ ?_)
  simp only [octavoref07_Week.j0]
  rw [E.w64 (x := a + 6) (by omega) (by omega), (tm (a + 6) 7 (by omega)).1 (by omega), E.w64 (x := a - (a + 6) % 7) (by omega) (by omega), E.w64 (x := a - (a + 6) % 7 + 3) (by omega) (by omega), ← e]
  refine E.neg (by simp; omega) (E.neg (by omega) (E.neg (by omega) ?_))
  have g := hi
  obtain ⟨h1, h2, h3, h4, h5, h6, h7⟩ := g
  have f := fst_bd h1 h2 (m := 1) (by omega) (by omega)
  have c := cm_bd (leap y) h3 h4
  unfold dn at h7
  refine Ev.bind (rParts_is hi) (Ev.bind (first_is h1 h2 (by omega) (by omega)) (E.now ?_))
  rw [fst1] at f ⊢
  rw [E.w64 (x := thu a - ah y) (by omega) (by omega), E.w64 (x := thu a - ah y - 1) (by omega) (by omega), td _ (by omega), E.w64 (x := _ / 7) (by omega) (by omega), E.w64 (by omega) (by omega)]
theorem rWeek_no {a : Int} (h : a < 1 ∨ 2958464 < a) : Ev (fun n => octavoref07_Week.f n a) 0 := by
  unfold octavoref07_Week.f
  by_cases c : a < 1
  · refine E.pos c (E.succ ?_)
    simp only [octavoref07_Week.j0]
    exact E.pos trivial (Ev.now _)
  · refine E.neg c (E.succ ?_)
    simp only [octavoref07_Week.j0]
    exact E.pos (by simp; omega) (Ev.now _)
end Go.Proofs.Ytemelfcpmbcnaaa.Dt
