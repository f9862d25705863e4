/- Dates by arithmetic: days, parts, months, weeks. -/
import Derived.Test.YtemelfcpmbcnaaaDateA
import Derived.Test.YtemelfcpmbcnaaaPx1
import Derived.Test.YtemelfcpmbcnaaaPx4
import Derived.Test.YtemelfcpmbcnaaaPx5
namespace Go.Proofs.Ytemelfcpmbcnaaa.Dt
open Go.RowKit Go.Proofs.Ytemelfcpmbcnaaa.P Go.Proofs.YtemelfcpmbcnaaaW.PrintWords Go.Proofs.YtemelfcpmbcnaaaW.PrintLast
set_option linter.unusedVariables false
set_option linter.unusedSimpArgs false

def day (y m d : Int) : Int × Bool := if 1900 ≤ y ∧ y ≤ 9999 ∧ 1 ≤ d ∧ d ≤ last y m then (dn y m d, true) else (0, false)
theorem last_out {y m d : Int} (h : 1 ≤ d) (k : d ≤ last y m) : 1 ≤ m ∧ m ≤ 12 ∧ d ≤ 31 := by
  have e : 1 ≤ m ∧ m ≤ 12 := by
    by_cases c : m < 1 ∨ 12 < m
    · rw [last, if_pos c] at k; omega
    · omega
  have := last_bd y m e.1 e.2
  omega
theorem dn_bd {y m d : Int} (h1 : 1900 ≤ y) (h2 : y ≤ 9999) (h3 : 1 ≤ d) (h4 : d ≤ last y m) : 1 ≤ dn y m d ∧ dn y m d ≤ 2958464 := by
  obtain ⟨a, b, _⟩ := last_out h3 h4
  exact Is.range (y := y) (m := m) (d := d) ⟨h1, h2, a, b, h3, h4, rfl⟩
theorem day_yes {y m d : Int} (h1 : 1900 ≤ y) (h2 : y ≤ 9999) (h3 : 1 ≤ d) (h4 : d ≤ last y m) : day y m d = (dn y m d, true) := if_pos ⟨h1, h2, h3, h4⟩
theorem day_no {y m d : Int} (h : ¬ (1900 ≤ y ∧ y ≤ 9999 ∧ 1 ≤ d ∧ d ≤ last y m)) : day y m d = (0, false) := if_neg h
theorem Day_is (y m d : Int) : Ev (fun k => date_Day.f k y m d) (day y m d) := by
  unfold date_Day.f
  refine E.ite (fun h => ?_) (fun h1 => E.ite (fun h => ?_) (fun h2 => E.ite (fun h => ?_) (fun h3 => ?_)))
  · rw [day_no (by omega)]
    refine E.succ ?_
    simp only [date_Day.j0]
    exact E.pos trivial (Ev.now _)
  · rw [day_no (by omega)]
    refine E.succ ?_
    simp only [date_Day.j0]
    exact E.pos trivial (Ev.now _)
  · rw [day_no (by omega)]
    refine E.succ ?_
    simp only [date_Day.j0]
    exact E.pos trivial (Ev.now _)
  refine Ev.bind (Last_is y m) (E.succ ?_)
  simp only [date_Day.j0]
  by_cases h4 : last y m < d
  · rw [day_no (by omega)]
    exact E.pos (by simp [h4]) (Ev.now _)
  · obtain ⟨a, b, c⟩ := last_out (y := y) (m := m) (d := d) (by omega) (by omega)
    have e := dn_bd (y := y) (m := m) (d := d) (by omega) (by omega) (by omega) (by omega)
    refine E.neg (by simp [h4]) (E.bindn (civil_is (by omega) (by omega) a b (by omega) c) (E.bindn (civil_is (y := 1900) (m := 1) (d := 1) (by omega) (by omega) (by omega) (by omega) (by omega) (by omega)) (E.now ?_)))
    have e1 : dn 1900 1 1 = 1 := by decide
    rw [day_yes (by omega) (by omega) (by omega) (by omega), e1]
    simp (disch := omega) only [E.w64]
    simp only [Prod.mk.injEq, and_true]
    omega

/-! ### the reference's -/
theorem ahead_is {y : Int} (h : 1 ≤ y) (k : y ≤ 100000) : octavoref07_ahead.f y = some (ah y) := by
  unfold octavoref07_ahead.f ah
  congr 1
  simp (disch := omega) only [E.w64, td]
def fst (y m : Int) : Int := ah y + cm (leap y) m
theorem fst_bd {y m : Int} (h1 : 1900 ≤ y) (h2 : y ≤ 9999) (h3 : 1 ≤ m) (h4 : m ≤ 12) : 0 ≤ fst y m ∧ fst y m ≤ 2958464 := by
  have := Is.range (y := y) (m := m) (d := 1) (a := dn y m 1) ⟨h1, h2, h3, h4, by omega, by have := last_bd y m h3 h4; omega, rfl⟩
  unfold dn at this
  unfold fst
  omega
theorem first_loop {y m : Int} (h1 : 1900 ≤ y) (h2 : y ≤ 9999) (h4 : m ≤ 12) : ∀ (n : Nat) (j : Int), 1 ≤ j → m - j = n → Ev (fun k => octavoref07_first.l0 k y m (fst y j) j) (fst y m) := by
  intro n
  induction n with
  | zero =>
    intro j hj hn
    have : j = m := by omega
    subst this
    exact E.succ (E.neg (by omega) (Ev.now _))
  | succ n ih =>
    intro j hj hn
    refine E.succ (E.pos (by omega) (Ev.bind (rLast_is y j) ?_))
    have a := fst_bd h1 h2 hj (by omega)
    have b := last_bd y j hj (by omega)
    have c : fst y (j + 1) = fst y j + last y j := by
      unfold fst
      rw [cm_next _ hj (by omega), last_in hj (by omega)]
      omega
    simp (disch := omega) only [E.w64]
    rw [← c]
    exact ih (j + 1) (by omega) (by omega)
theorem first_is {y m : Int} (h1 : 1900 ≤ y) (h2 : y ≤ 9999) (h3 : 1 ≤ m) (h4 : m ≤ 12) : Ev (fun k => octavoref07_first.f k y m) (fst y m) := by
  unfold octavoref07_first.f
  refine E.bindn (ahead_is (by omega) (by omega)) ?_
  have := first_loop h1 h2 h4 (m - 1).toNat 1 (by omega) (by omega)
  have e : fst y 1 = ah y := by unfold fst; cases leap y <;> simp [cm]
  rw [e] at this
  exact this
theorem rDay_is (y m d : Int) : Ev (fun k => octavoref07_Day.f k y m d) (day y m d) := by
  unfold octavoref07_Day.f
  refine E.ite (fun h => ?_) (fun h1 => E.ite (fun h => ?_) (fun h2 => E.ite (fun h => ?_) (fun h3 => ?_)))
  · rw [day_no (by omega)]; exact Ev.now _
  · rw [day_no (by omega)]; exact Ev.now _
  · rw [day_no (by omega)]; exact Ev.now _
  refine Ev.bind (rLast_is y m) (E.ite (fun h => ?_) (fun h4 => ?_))
  · rw [day_no (by omega)]
    exact Ev.now _
  · obtain ⟨a, b, c⟩ := last_out (y := y) (m := m) (d := d) (by omega) (by omega)
    have e := fst_bd (y := y) (m := m) (by omega) (by omega) a b
    refine Ev.bind (first_is (by omega) (by omega) a b) (E.now ?_)
    rw [day_yes (by omega) (by omega) (by omega) (by omega)]
    simp (disch := omega) only [E.w64]
    rfl

/-! ### parts of a day -/
theorem good_is (a : Int) : date_good.f a = some (decide (1 ≤ a ∧ a ≤ 2958464)) := by
  unfold date_good.f
  by_cases h : a ≥ 1
  · rw [if_pos h]
    congr 1
    simp
    omega
  · rw [if_neg h]
    congr 1
    symm
    simp
    omega
theorem ymonths {y a : Int} (h1 : 1900 ≤ y) (h2 : y ≤ 9999) (h5 : a ≤ ah (y + 1)) : ∀ (n : Nat) (m : Int), 1 ≤ m → m ≤ 12 → fst y m < a → 12 - m = n → ∃ m' d, Is a y m' d ∧ Ev (fun k => date_Parts.l1 k y m (a - fst y m)) (y, m', d, true) := by
  intro n
  have hA := ah_bd h1 (by omega : y ≤ 10000)
  have hB := ah_bd (y := y + 1) (by omega) (by omega)
  induction n with
  | zero =>
    intro m h3 h4 hf hn
    have : m = 12 := by omega
    subst this
    have l := last_in (y := y) h3 h4
    have nx := ah_next y
    have e : a - fst y 12 ≤ last y 12 := by
      rw [l]; unfold fst; cases h : leap y <;> simp [h, cm, ml] at nx ⊢ <;> omega
    refine ⟨12, a - fst y 12, ⟨h1, h2, h3, h4, by omega, e, by unfold dn fst; omega⟩, E.succ (Ev.bind (Last_is y 12) (E.neg (by omega) (Ev.now _)))⟩
  | succ n ih =>
    intro m h3 h4 hf hn
    have a1 := fst_bd h1 h2 h3 h4
    have b := last_bd y m h3 h4
    by_cases c : a - fst y m ≤ last y m
    · exact ⟨m, a - fst y m, ⟨h1, h2, h3, h4, by omega, c, by unfold dn fst; omega⟩, E.succ (Ev.bind (Last_is y m) (E.neg (by omega) (Ev.now _)))⟩
    · have e : fst y (m + 1) = fst y m + last y m := by
        unfold fst
        rw [cm_next _ h3 (by omega), last_in h3 (by omega)]
        omega
      obtain ⟨m', d, hi, hv⟩ := ih (m + 1) (by omega) (by omega) (by omega) (by omega)
      refine ⟨m', d, hi, E.succ (Ev.bind (Last_is y m) (E.pos (by omega) (Ev.bind (Last_is y m) ?_)))⟩
      simp (disch := omega) only [E.w64]
      rw [show a - fst y m - last y m = a - fst y (m + 1) from by omega]
      exact hv
theorem years {a : Int} (h6 : 1 ≤ a) (h7 : a ≤ 2958464) : ∀ (n : Nat) (y : Int), 1900 ≤ y → y ≤ 9999 → ah y < a → 9999 - y = n → ∃ y' m' d, Is a y' m' d ∧ Ev (fun k => date_Parts.l0 k a y 1) (y', m', d, true) := by
  intro n
  have dn1 : ∀ y, dn y 1 1 = ah y + 1 := fun y => by unfold dn; cases leap y <;> simp [cm]
  have f1 : ∀ y, fst y 1 = ah y := fun y => by unfold fst; cases leap y <;> simp [cm]
  have l1 : ∀ y, last y 1 = 31 := fun y => rfl
  induction n with
  | zero =>
    intro y h1 h2 hf hn
    have : y = 9999 := by omega
    subst this
    have hA : ah 9999 = 2958099 := by decide
    have hB : ah 10000 = 2958464 := by decide
    obtain ⟨m', d, hi, hv⟩ := ymonths (y := 9999) (a := a) (by omega) (by omega) (by show a ≤ ah 10000; omega) 11 1 (by omega) (by omega) (by rw [f1]; omega) (by omega)
    refine ⟨9999, m', d, hi, E.succ ?_⟩
    simp only [date_Parts.l0]
    rw [E.w64 (x := 9999 + 1) (by omega) (by omega)]
    have q := Day_is 10000 1 1
    rw [show day 10000 1 1 = (0, false) from by unfold day; rw [if_neg (by omega)]] at q
    have q2 := Day_is 9999 1 1
    rw [day_yes (by omega) (by omega) (by omega) (by rw [l1]; omega), dn1] at q2
    refine Ev.bind q (E.neg (by decide) (Ev.bind q2 ?_))
    simp (disch := omega) only [E.w64]
    rw [f1] at hv
    rw [show a - (ah 9999 + 1) + 1 = a - ah 9999 from by omega]
    exact hv
  | succ n ih =>
    intro y h1 h2 hf hn
    have nx := ah_next y
    have b1 := ah_bd h1 (by omega : y ≤ 10000)
    have b2 := ah_bd (y := y + 1) (by omega) (by omega)
    have q := Day_is (y + 1) 1 1
    rw [day_yes (by omega) (by omega) (by omega) (by rw [l1]; omega), dn1] at q
    have q2 := Day_is y 1 1
    rw [day_yes (by omega) (by omega) (by omega) (by rw [l1]; omega), dn1] at q2
    by_cases c : a ≤ ah (y + 1)
    · obtain ⟨m', d, hi, hv⟩ := ymonths (y := y) (a := a) (by omega) (by omega) c 11 1 (by omega) (by omega) (by rw [f1]; omega) (by omega)
      refine ⟨y, m', d, hi, E.succ ?_⟩
      simp only [date_Parts.l0]
      rw [E.w64 (x := y + 1) (by omega) (by omega)]
      refine Ev.bind q (E.pos rfl (E.pos (by show a < ah (y + 1) + 1; omega) (Ev.bind q2 ?_)))
      simp (disch := omega) only [E.w64]
      rw [f1] at hv
      rw [show a - (ah y + 1) + 1 = a - ah y from by omega]
      exact hv
    · obtain ⟨y', m', d, hi, hv⟩ := ih (y + 1) (by omega) (by omega) (by omega) (by omega)
      refine ⟨y', m', d, hi, E.succ ?_⟩
      simp only [date_Parts.l0]
      rw [E.w64 (x := y + 1) (by omega) (by omega)]
      exact Ev.bind q (E.pos rfl (E.neg (by show ¬ a < ah (y + 1) + 1; omega) hv))
theorem Parts_ex {a : Int} (h6 : 1 ≤ a) (h7 : a ≤ 2958464) : ∃ y m d, Is a y m d ∧ Ev (fun k => date_Parts.f k a) (y, m, d, true) := by
  have hq : ah (1900 + a / 366) < a := by unfold ah; omega
  obtain ⟨y, m, d, hi, hv⟩ := years h6 h7 (9999 - (1900 + a / 366)).toNat (1900 + a / 366) (by omega) (by omega) hq (by omega)
  refine ⟨y, m, d, hi, ?_⟩
  unfold date_Parts.f
  refine E.bindn (good_is a) (E.pos (by simp; omega) ?_)
  simp (disch := omega) only [E.w64, td]
  exact hv
theorem Parts_is {a y m d : Int} (h : Is a y m d) : Ev (fun k => date_Parts.f k a) (y, m, d, true) := by
  obtain ⟨y', m', d', hi, hv⟩ := Parts_ex h.range.1 h.range.2
  obtain ⟨rfl, rfl, rfl⟩ := hi.uniq h
  exact hv
theorem Parts_no {a : Int} (h : a < 1 ∨ 2958464 < a) : Ev (fun k => date_Parts.f k a) (0, 0, 0, false) := by
  unfold date_Parts.f
  exact E.bindn (good_is a) (E.neg (by simp; omega) (Ev.now _))
theorem Is_ex {a : Int} (h6 : 1 ≤ a) (h7 : a ≤ 2958464) : ∃ y m d, Is a y m d := by
  obtain ⟨y, m, d, hi, _⟩ := Parts_ex h6 h7
  exact ⟨y, m, d, hi⟩
end Go.Proofs.Ytemelfcpmbcnaaa.Dt
