/- Dates by arithmetic: what the functions of package date come to. -/
import Derived.Test.YtemelfcpmbcnaaaE
import Derived.Test.YtemelfcpmbcnaaaPx1
import Derived.Test.YtemelfcpmbcnaaaPx4
namespace Go.Proofs.Ytemelfcpmbcnaaa.Dt
open Go.RowKit Go.Proofs.Ytemelfcpmbcnaaa.P Go.Proofs.YtemelfcpmbcnaaaW.PrintWords Go.Proofs.YtemelfcpmbcnaaaW.PrintLast
set_option linter.unusedVariables false
set_option linter.unusedSimpArgs false

def leap (y : Int) : Bool := decide (y % 4 = 0 ∧ (y % 100 ≠ 0 ∨ y % 400 = 0))
def ml (l : Bool) (m : Int) : Int := if m = 2 then (if l then 29 else 28) else if m = 4 ∨ m = 6 ∨ m = 9 ∨ m = 11 then 30 else 31
def last (y m : Int) : Int := if m < 1 ∨ 12 < m then 0 else ml (leap y) m
def cm (l : Bool) (m : Int) : Int := (if m ≤ 1 then 0 else if m = 2 then 31 else if m = 3 then 59 else if m = 4 then 90 else if m = 5 then 120 else if m = 6 then 151 else if m = 7 then 181 else if m = 8 then 212 else if m = 9 then 243 else if m = 10 then 273 else if m = 11 then 304 else if m = 12 then 334 else 365) + (if l ∧ 3 ≤ m then 1 else 0)
def ah (y : Int) : Int := 365 * (y - 1900) + ((y - 1) / 4 - (y - 1) / 100 + (y - 1) / 400 - 460)
def dn (y m d : Int) : Int := ah y + cm (leap y) m + d
def Is (a y m d : Int) : Prop := 1900 ≤ y ∧ y ≤ 9999 ∧ 1 ≤ m ∧ m ≤ 12 ∧ 1 ≤ d ∧ d ≤ last y m ∧ dn y m d = a

theorem m12 {m : Int} (h : 1 ≤ m) (k : m ≤ 12) : m = 1 ∨ m = 2 ∨ m = 3 ∨ m = 4 ∨ m = 5 ∨ m = 6 ∨ m = 7 ∨ m = 8 ∨ m = 9 ∨ m = 10 ∨ m = 11 ∨ m = 12 := by omega
theorem last_in {y m : Int} (h : 1 ≤ m) (k : m ≤ 12) : last y m = ml (leap y) m := if_neg (by omega)
theorem last_bd (y m : Int) (h : 1 ≤ m) (k : m ≤ 12) : 28 ≤ last y m ∧ last y m ≤ 31 := by
  rw [last_in h k]; unfold ml; split <;> (try split) <;> omega
theorem cm_next (l : Bool) {m : Int} (h : 1 ≤ m) (k : m ≤ 12) : cm l (m + 1) = cm l m + ml l m := by
  rcases m12 h k with e | e | e | e | e | e | e | e | e | e | e | e <;> subst e <;> cases l <;> rfl
theorem cm_mono (l : Bool) {m m' : Int} (h : 1 ≤ m) (k : m' ≤ 12) (hm : m < m') : cm l m + ml l m ≤ cm l m' := by
  rcases m12 h (by omega) with e | e | e | e | e | e | e | e | e | e | e | e <;> subst e <;> rcases m12 (by omega) k with e | e | e | e | e | e | e | e | e | e | e | e <;> subst e <;> cases l <;> first | decide | omega
theorem cm_bd (l : Bool) {m : Int} (h : 1 ≤ m) (k : m ≤ 12) : 0 ≤ cm l m ∧ cm l m + ml l m ≤ 365 + (if l then 1 else 0) := by
  rcases m12 h k with e | e | e | e | e | e | e | e | e | e | e | e <;> subst e <;> cases l <;> decide
theorem leap_t {y : Int} (h : leap y = true) : y % 4 = 0 ∧ (y % 100 ≠ 0 ∨ y % 400 = 0) := of_decide_eq_true h
theorem leap_f {y : Int} (h : leap y = false) : ¬ (y % 4 = 0 ∧ (y % 100 ≠ 0 ∨ y % 400 = 0)) := of_decide_eq_false h
theorem ah_next (y : Int) : ah (y + 1) = ah y + 365 + (if leap y then 1 else 0) := by
  unfold ah
  cases h : leap y with
  | true => have := leap_t h; simp; omega
  | false => have := leap_f h; simp; omega
theorem ah_mono {y y' : Int} (h : y < y') : ah y + 365 + (if leap y then 1 else 0) ≤ ah y' := by
  rw [← ah_next]
  unfold ah
  omega
theorem ah_bd {y : Int} (h : 1900 ≤ y) (k : y ≤ 10000) : 0 ≤ ah y ∧ ah y ≤ 2958464 := by unfold ah; omega
/-- a day's date is one alone -/
theorem Is.uniq {a y m d y' m' d' : Int} (h : Is a y m d) (k : Is a y' m' d') : y = y' ∧ m = m' ∧ d = d' := by
  obtain ⟨h1, h2, h3, h4, h5, h6, h7⟩ := h
  obtain ⟨k1, k2, k3, k4, k5, k6, k7⟩ := k
  rw [last_in h3 h4] at h6
  rw [last_in k3 k4] at k6
  unfold dn at h7 k7
  have b := cm_bd (leap y) h3 h4
  have b' := cm_bd (leap y') k3 k4
  have ey : y = y' := by
    rcases Int.lt_trichotomy y y' with e | e | e
    · have := ah_mono e; omega
    · exact e
    · have := ah_mono e; omega
  subst ey
  have em : m = m' := by
    rcases Int.lt_trichotomy m m' with e | e | e
    · have := cm_mono (leap y) h3 k4 e; omega
    · exact e
    · have := cm_mono (leap y) k3 h4 e; omega
  subst em
  exact ⟨rfl, rfl, by omega⟩
theorem Is.range {a y m d : Int} (h : Is a y m d) : 1 ≤ a ∧ a ≤ 2958464 := by
  obtain ⟨h1, h2, h3, h4, h5, h6, h7⟩ := h
  rw [last_in h3 h4] at h6
  unfold dn at h7
  have b := cm_bd (leap y) h3 h4
  have c := ah_bd h1 (by omega)
  have d := ah_next y
  have e := ah_bd (y := y + 1) (by omega) (by omega)
  omega

/-! ### the program's functions -/
theorem Leap_is (y : Int) : date_Leap.f y = some (leap y) := by
  unfold date_Leap.f leap
  have e4 : (Int.tmod y 4 = 0) ↔ (y % 4 = 0) := by rw [← Int.dvd_iff_tmod_eq_zero, Int.dvd_iff_emod_eq_zero]
  have e100 : (Int.tmod y 100 = 0) ↔ (y % 100 = 0) := by rw [← Int.dvd_iff_tmod_eq_zero, Int.dvd_iff_emod_eq_zero]
  have e400 : (Int.tmod y 400 = 0) ↔ (y % 400 = 0) := by rw [← Int.dvd_iff_tmod_eq_zero, Int.dvd_iff_emod_eq_zero]
  by_cases h : y % 100 = 0
  · rw [if_pos (e100.mpr h)]
    congr 1
    rw [Bool.eq_iff_iff, beq_iff_eq, e400, decide_eq_true_iff]
    omega
  · rw [if_neg (fun z => h (e100.mp z))]
    congr 1
    rw [Bool.eq_iff_iff, beq_iff_eq, e4, decide_eq_true_iff]
    omega
theorem rLeap_is (y : Int) : octavoref07_Leap.f y = some (leap y) := by
  unfold octavoref07_Leap.f leap
  have e4 : (Int.tmod y 4 = 0) ↔ (y % 4 = 0) := by rw [← Int.dvd_iff_tmod_eq_zero, Int.dvd_iff_emod_eq_zero]
  have e100 : (Int.tmod y 100 = 0) ↔ (y % 100 = 0) := by rw [← Int.dvd_iff_tmod_eq_zero, Int.dvd_iff_emod_eq_zero]
  have e400 : (Int.tmod y 400 = 0) ↔ (y % 400 = 0) := by rw [← Int.dvd_iff_tmod_eq_zero, Int.dvd_iff_emod_eq_zero]
  by_cases h4 : y % 4 = 0
  · rw [if_pos (e4.mpr h4)]
    by_cases h : y % 100 = 0
    · rw [if_pos (e100.mpr h)]
      congr 1
      rw [Bool.eq_iff_iff, beq_iff_eq, e400, decide_eq_true_iff]
      omega
    · rw [if_neg (fun z => h (e100.mp z))]
      congr 1
      symm
      rw [decide_eq_true_iff]
      omega
  · rw [if_neg (fun z => h4 (e4.mp z))]
    congr 1
    symm
    rw [decide_eq_false_iff_not]
    omega

theorem Last_is (y m : Int) : Ev (fun k => date_Last.f k y m) (last y m) := by
  unfold date_Last.f
  by_cases h : m < 1
  · have hl : last y m = 0 := if_pos (.inl h)
    rw [hl]
    refine E.pos h (E.succ ?_)
    simp only [date_Last.j0]
    exact E.pos (by simp [h]) (Ev.now _)
  · refine E.neg h (E.succ ?_)
    simp only [date_Last.j0]
    by_cases h' : 12 < m
    · have hl : last y m = 0 := if_pos (.inr h')
      rw [hl]
      exact E.pos (by simp [h']) (Ev.now _)
    · rw [last_in (by omega) (by omega)]
      refine E.neg (by simp [h']) ?_
      rcases m12 (m := m) (by omega) (by omega) with e | e | e | e | e | e | e | e | e | e | e | e <;> subst e
      case inr.inl =>
        refine E.pos rfl (E.bindn (Leap_is y) ?_)
        unfold ml
        cases leap y
        · exact E.neg (by decide) (E.pos (by unfold wrap64; decide) (E.pos (by unfold wrap64; decide) (E.now (by unfold wrap64; rfl))))
        · exact Ev.now _
      all_goals
        exact E.neg (by decide) (E.pos (by unfold wrap64; decide) (E.pos (by unfold wrap64; decide) (E.now (by unfold wrap64; rfl))))
theorem rLast_is (y m : Int) : Ev (fun k => octavoref07_Last.f k y m) (last y m) := by
  unfold octavoref07_Last.f
  by_cases h : m < 1
  · have hl : last y m = 0 := if_pos (.inl h)
    rw [hl]
    refine E.pos h (E.succ ?_)
    simp only [octavoref07_Last.j0]
    exact E.pos (by simp) (Ev.now _)
  · refine E.neg h (E.succ ?_)
    simp only [octavoref07_Last.j0]
    by_cases h' : 12 < m
    · have hl : last y m = 0 := if_pos (.inr h')
      rw [hl]
      exact E.pos (by simp [h']) (Ev.now _)
    · rw [last_in (by omega) (by omega)]
      refine E.neg (by simp [h']) ?_
      rcases m12 (m := m) (by omega) (by omega) with e | e | e | e | e | e | e | e | e | e | e | e <;> subst e
      case inr.inl =>
        refine E.pos rfl (E.bindn (rLeap_is y) ?_)
        unfold ml
        cases leap y
        · exact E.neg (by decide) (E.pos (by decide) (E.pos (by decide) (E.now rfl)))
        · exact Ev.now _
      all_goals
        exact E.neg (by decide) (E.pos (by decide) (E.pos (by decide) (E.now rfl)))
theorem td {x : Int} (n : Int) (h : 0 ≤ x) : Int.tdiv x n = x / n := Int.tdiv_eq_ediv_of_nonneg h
theorem civil_is {y m d : Int} (h1 : 1900 ≤ y) (h2 : y ≤ 9999) (h3 : 1 ≤ m) (h4 : m ≤ 12) (h5 : 1 ≤ d) (h6 : d ≤ 31) : date_civil.f y m d = some (dn y m d + 3) := by
  unfold date_civil.f
  rcases m12 h3 h4 with e | e | e | e | e | e | e | e | e | e | e | e <;> subst e
  all_goals
    first | rw [if_pos (by decide)] | rw [if_neg (by decide)]
    congr 1
    simp (disch := omega) only [E.w64, td]
    have q := ah_next y
    unfold dn cm
    unfold ah at q ⊢
    rw [show y + 1 - 1 = y from by omega] at q
    generalize (y - 1) / 4 = a4 at q ⊢
    generalize (y - 1) / 100 = a100 at q ⊢
    generalize (y - 1) / 400 = a400 at q ⊢
    generalize y / 4 = b4 at q ⊢
    generalize y / 100 = b100 at q ⊢
    generalize y / 400 = b400 at q ⊢
    cases h : leap y <;> simp [h] at q ⊢ <;> omega
end Go.Proofs.Ytemelfcpmbcnaaa.Dt
