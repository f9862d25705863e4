/- A number times a whole one, divided by it, is the number, and whole quotient and rest make it: for all ints of int's kind. -/
import Derived.Test.YtficjmgofbdohaaDoorNumF
import Derived.Test.YtficjmgofbdohaaDoorPx7
import Derived.Test.YtficjmgofbdohaaDoorPx8
namespace Go.Proofs.YtficjmgofbdohaaDoor.Pure
open Go.RowKit Go.Proofs.YtficjmgofbdohaaDoor.P Go.Proofs.YtficjmgofbdohaaDoor.Nm Go.Proofs.YtficjmgofbdohaaDoorW.PrintWords Go.Proofs.YtficjmgofbdohaaDoorW.PrintLast
set_option linter.unusedVariables false
set_option linter.unusedSimpArgs false

theorem fin_lives : Ev (fun n => (octavolaw05_lives.f n).bind fun t => some t) true := Ev.bind lives_is (Ev.now _)

theorem sign_eq {a x : Int} (h : ab x = ab a) (s : (a < 0 ↔ x < 0)) : x = a := by
  unfold ab at h
  split at h <;> split at h <;> omega

theorem turned {a k : Int} (ga : good a) (hk : k ≠ 0) (k1 : -1000 ≤ k) (k2 : k ≤ 1000) (ok : (mul a (k * 10000)).2 = true) : div (mul a (k * 10000)).1 (k * 10000) = (a, true) := by
  have gk : good (k * 10000) := by unfold good; omega
  have ba := ab_bd ga
  have ek : ab (k * 10000) = ab k * 10000 := by unfold ab; split <;> split <;> omega
  have bk : 1 ≤ ab k ∧ ab k ≤ 1000 := by unfold ab; split <;> omega
  have eu : (ab a * ab (k * 10000) + 5000) / 10000 = ab a * ab k := by
    rw [ek, ← Int.mul_assoc]; omega
  have u0 := Int.mul_nonneg ba.1 (show 0 ≤ ab k by omega)
  unfold mul at ok ⊢
  rw [if_pos ⟨ga, gk⟩, eu] at ok ⊢
  have hu : ab a * ab k ≤ 100000000000 := by
    unfold sgn at ok
    by_cases c : ab a * ab k > 100000000000
    · rw [if_pos c] at ok; cases ok
    · omega
  have hle : ab a ≤ ab a * ab k := by
    have := Int.mul_le_mul_of_nonneg_left bk.1 ba.1; omega
  have hs : ∀ x y : Int, 0 ≤ x → x ≤ 100000000000 → good (sgn x y (k * 10000)).1 ∧ ab (sgn x y (k * 10000)).1 = x ∧ ((sgn x y (k * 10000)).1 < 0 ↔ 0 < x ∧ ¬ (y < 0 ↔ k < 0)) ∧ (sgn x y (k * 10000)).2 = true := by
    intro x y h0 h1
    unfold sgn
    rw [if_neg (by omega)]
    have kk : decide (k * 10000 < 0) = decide (k < 0) := by
      by_cases z : k < 0
      · rw [decide_eq_true z, decide_eq_true (by omega)]
      · rw [decide_eq_false z, decide_eq_false (by omega)]
    rw [kk]
    by_cases y0 : y < 0 <;> by_cases z : k < 0 <;> simp [y0, z, good, ab] <;> (try split) <;> omega
  obtain ⟨g1, g2, g3, g4⟩ := hs (ab a * ab k) a u0 hu
  generalize (sgn (ab a * ab k) a (k * 10000)).1 = p at *
  unfold div
  rw [if_pos ⟨g1, gk, by omega⟩, g2, ek]
  have ed : (ab a * ab k * 10000 + ab k * 10000 / 2) / (ab k * 10000) = ab a := by
    rw [show ab a * ab k * 10000 + ab k * 10000 / 2 = ab k * 5000 + ab a * (ab k * 10000) by rw [← Int.mul_assoc]; omega, Int.add_mul_ediv_right _ _ (by omega), Int.ediv_eq_zero_of_lt (by omega) (by omega)]
    omega
  rw [ed]
  obtain ⟨m1, m2, m3, m4⟩ := hs (ab a) p ba.1 ba.2
  refine Prod.ext (sign_eq m2 ?_) m4
  rw [m3, g3]
  have aa : a < 0 → 0 < ab a := fun h => by unfold ab; rw [if_pos h]; omega
  have ap : 0 < ab a → 0 < ab a * ab k := fun h => by omega
  have az : ab a = 0 → a = 0 := fun h => by unfold ab at h; split at h <;> omega
  by_cases a0 : a < 0
  · have := aa a0
    have := ap this
    by_cases z : k < 0 <;> simp [a0, z] <;> omega
  · by_cases h0 : ab a = 0
    · simp [h0, a0]
    · have : 0 < ab a := by omega
      have := ap this
      by_cases z : k < 0 <;> simp [a0, z] <;> omega

theorem key (t x M : Int) (ht : 0 < t) (hM : 0 ≤ M) : (t * x ≤ M → x ≤ M) ∧ (-M ≤ t * x → -M ≤ x) ∧ (-t < t * x → 0 ≤ x) ∧ (t * x < t → x ≤ 0) := by
  refine ⟨fun h => ?_, fun h => ?_, fun h => ?_, fun h => ?_⟩
  · by_cases c : 0 ≤ x
    · have := Int.mul_le_mul_of_nonneg_right (show 1 ≤ t by omega) c; omega
    · omega
  · by_cases c : 0 ≤ -x
    · have := Int.mul_le_mul_of_nonneg_right (show 1 ≤ t by omega) c; simp only [Int.mul_neg] at this; omega
    · omega
  · by_cases c : 0 ≤ x
    · exact c
    · have := Int.mul_le_mul_of_nonneg_left (show x ≤ -1 by omega) (show 0 ≤ t by omega); omega
  · by_cases c : x ≤ 0
    · exact c
    · have := Int.mul_le_mul_of_nonneg_left (show 1 ≤ x by omega) (show 0 ≤ t by omega); omega

theorem j1_is {a k : Int} (ga : good a) (hk : k ≠ 0) (k1 : -1000 ≤ k) (k2 : k ≤ 1000) : Ev (fun n => octavolaw05_NumWhole.j1 n a k) true := by
  have gk : good (k * 10000) := by unfold good; omega
  have hb : k * 10000 ≠ 0 := by omega
  have q := Quo_is a (k * 10000)
  obtain ⟨t, r, ht, hr, e, s1, s2, p, n⟩ := tq (a := a) hb
  have bd := abs_q hb e s1 s2 p n ga
  have ga' := ga
  unfold good at ga'
  have small : -10000000 ≤ t ∧ t ≤ 10000000 := by
    have e' : a = 10000 * (k * t) + r := by rw [e]; congr 1; rw [Int.mul_comm k 10000, Int.mul_assoc]
    by_cases kp : 0 < k
    · obtain ⟨x1, x2, x3, x4⟩ := key k t 10000000 kp (by omega)
      have := p (by omega)
      by_cases z : 0 ≤ a
      · have := s1 z; exact ⟨by have := x3 (by omega); omega, x1 (by omega)⟩
      · have := s2 (by omega); exact ⟨x2 (by omega), by have := x4 (by omega); omega⟩
    · obtain ⟨x1, x2, x3, x4⟩ := key (-k) (-t) 10000000 (by omega) (by omega)
      rw [Int.neg_mul_neg] at x1 x2 x3 x4
      have := n (by omega)
      by_cases z : 0 ≤ a
      · have := s1 z; have := x1 (by omega); have := x3 (by omega); omega
      · have := s2 (by omega); have := x2 (by omega); have := x4 (by omega); omega
  have eq : quo a (k * 10000) = (t * 10000, true) := by
    unfold quo
    rw [if_pos ⟨ga, gk, hb⟩, ht, if_neg (by unfold ab; split <;> omega)]
  rw [eq] at q
  refine E.succ ?_
  simp only [octavolaw05_NumWhole.j1]
  rw [E.w64 (x := k * 10000) (by omega) (by omega)]
  refine Ev.bind q (E.pos (by rfl) ?_)
  have etd : Int.tdiv (t * 10000) 10000 = t := Int.mul_tdiv_cancel t (by omega)
  have e3 : t * k * 10000 = a - r := by rw [Int.mul_assoc, Int.mul_comm]; omega
  have r1 : -10000000 < r ∧ r < 10000000 := by
    by_cases kp : 0 < k
    · have := p (by omega); omega
    · have := n (by omega); omega
  have e4 : -100000000000000000 ≤ t * k ∧ t * k ≤ 100000000000000000 := by omega
  rw [etd, E.w64 (x := t) (by omega) (by omega), E.w64 (x := t * k) (by omega) (by omega), e3, E.w64 (x := a - r) (by omega) (by omega), show a - (a - r) = r by omega, E.w64 (x := r) (by omega) (by omega)]
  refine E.ite (fun z => E.pos (by omega) (E.pos (by omega) fin_lives)) (fun z => E.pos ?_ (E.pos (by omega) (E.pos (by omega) fin_lives)))
  by_cases a0 : a < 0
  · have := s2 (by omega)
    simp [a0]; omega
  · have := s1 (by omega)
    simp [a0]; omega

theorem NumWhole : octavolaw05_NumWhole.Pure := by
  intro a k w1 w2
  have b := E.wf64 w2
  have yes : Ev (fun n => octavolaw05_NumWhole.j0 n a k true) true := by
    refine E.succ ?_
    simp only [octavolaw05_NumWhole.j0]
    exact E.pos trivial fin_lives
  refine Ev.rounds (r := true) (E.bindn (Good_is a) (E.ite (fun g => ?_) (fun _ => yes)))
  have g := of_decide_eq_true g
  refine E.ite (fun _ => yes) (fun z => E.ite (fun _ => yes) (fun c1 => ?_))
  by_cases c2 : k > 1000
  · rw [decide_eq_true c2]; exact yes
  · rw [decide_eq_false c2]
    refine E.succ ?_
    simp only [octavolaw05_NumWhole.j0]
    rw [E.w64 (x := k * 10000) (by omega) (by omega)]
    refine E.neg (by simp) (Ev.bind (Mul_is _ _) (E.ite (fun ok => ?_) (fun _ => j1_is g z (by omega) (by omega))))
    have t := turned g z (by omega) (by omega) ok
    have d := Div_is (mul a (k * 10000)).1 (k * 10000)
    rw [t] at d
    exact Ev.bind d (E.pos (by rfl) (E.pos (by rfl) (j1_is g z (by omega) (by omega))))
end Go.Proofs.YtficjmgofbdohaaDoor.Pure
