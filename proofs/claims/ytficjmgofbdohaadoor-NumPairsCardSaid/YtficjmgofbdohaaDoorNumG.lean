/- What powers and greatest common divisors come to, in the program and in the document's answer. -/
import Derived.Test.YtficjmgofbdohaaDoorNumF
import Derived.Test.YtficjmgofbdohaaDoorPx6
import Derived.Test.YtficjmgofbdohaaDoorPx7
import Derived.Test.YtficjmgofbdohaaDoorPx8
namespace Go.Proofs.YtficjmgofbdohaaDoor.Nm
open Go.RowKit Go.Proofs.YtficjmgofbdohaaDoor.P Go.Proofs.YtficjmgofbdohaaDoorW.PrintWords Go.Proofs.YtficjmgofbdohaaDoorW.PrintLast
set_option linter.unusedVariables false
set_option linter.unusedSimpArgs false

theorem rPow_l {a w : Int} (hw : -64 ≤ w ∧ w ≤ 64) : ∀ (n : Nat) (i p : Int), 0 ≤ i → i + n = ab w → good p → Ev (fun k => octavoref05_Pow.l0 k a w p i) (if (pw a n p).2 = true then (if w < 0 then div 10000 (pw a n p).1 else ((pw a n p).1, true)) else (0, false)) := by
  have ha := abs_is (show good w by unfold good; omega)
  have hb : ab w ≤ 64 := by unfold ab; split <;> omega
  intro n
  induction n with
  | zero =>
    intro i p h0 h g
    refine E.succ (E.bindn ha (E.neg (by omega) ?_))
    show Ev _ (if true = true then (if w < 0 then div 10000 p else (p, true)) else (0, false))
    rw [if_pos rfl]
    refine E.ite (fun c => ?_) (fun c => ?_)
    · rw [if_pos c]
      exact Ev.bind (rDiv_is 10000 p) (Ev.now _)
    · rw [if_neg c, rout_is, out_yes' g]
      exact Ev.now _
  | succ n ih =>
    intro i p h0 h g
    refine E.succ (E.bindn ha (E.pos (by omega) (Ev.bind (rMul_is p a) ?_)))
    show Ev _ (if (if (mul p a).2 = true then pw a n (mul p a).1 else (0, false)).2 = true then (if w < 0 then div 10000 (if (mul p a).2 = true then pw a n (mul p a).1 else (0, false)).1 else ((if (mul p a).2 = true then pw a n (mul p a).1 else (0, false)).1, true)) else (0, false))
    refine E.ite (fun c => ?_) (fun c => ?_)
    · rw [if_pos c, E.w64 (x := i + 1) (by omega) (by omega)]
      exact ih (i + 1) _ (by omega) (by omega) (mul_good p a)
    · rw [if_neg c]
      exact E.now (by simp)

theorem rPow_is (a b : Int) : Ev (fun k => octavoref05_Pow.f k a b) (pow a b) := by
  have no : ∀ w, Ev (fun k => octavoref05_Pow.j0 k a w true) (0, false) := fun w => by
    refine E.succ ?_
    simp only [octavoref05_Pow.j0]
    exact E.pos trivial (Ev.now _)
  have yes : ∀ w, -64 ≤ w ∧ w ≤ 64 → Ev (fun k => octavoref05_Pow.j0 k a w false) (if (pw a (ab w).toNat 10000).2 = true then (if w < 0 then div 10000 (pw a (ab w).toNat 10000).1 else ((pw a (ab w).toNat 10000).1, true)) else (0, false)) := fun w hw => by
    refine E.succ ?_
    simp only [octavoref05_Pow.j0]
    have : 0 ≤ ab w := by unfold ab; split <;> omega
    exact E.neg (by simp) (rPow_l hw (ab w).toNat 0 10000 (by omega) (by omega) (by unfold good; omega))
  refine E.bindn (Whole_is b).2 (E.bindn (rGood_is a) ?_)
  unfold pow
  generalize whole b = w
  obtain ⟨w, ok⟩ := w
  simp only
  refine E.ite (fun g => E.ite (fun o => E.ite (fun c => ?_) (fun c1 => E.ite (fun c => ?_) (fun c2 => E.ite (fun z => ?_) (fun z => ?_)))) (fun o => ?_)) (fun g => ?_)
  · rw [if_neg (by omega)]; exact no _
  · rw [if_neg (by omega)]; exact no _
  · by_cases y : w = 0
    · rw [if_neg (fun h => h.2.2.2.2 ⟨z, y⟩), show (w == 0) = true by simp [y]]
      exact no _
    · rw [if_pos ⟨o, of_decide_eq_true g, by omega, by omega, fun h => y h.2⟩, show (w == 0) = false by simp [y]]
      exact yes w (by omega)
  · rw [if_pos ⟨o, of_decide_eq_true g, by omega, by omega, fun h => z h.1⟩]
    exact yes w (by omega)
  · rw [if_neg (fun h => o h.1)]; exact no _
  · rw [if_neg (fun h => g (decide_eq_true h.2.1))]; exact no _

theorem ab_nat (n : Int) : ab n = (n.natAbs : Int) := by unfold ab; split <;> omega
theorem Gcd_l : ∀ (m : Nat) (a b : Int), b.natAbs ≤ m → good a → good b → Ev (fun k => num_Gcd.f k a b) ((Nat.gcd a.natAbs b.natAbs : Nat) : Int) := by
  intro m
  induction m with
  | zero =>
    intro a b h ga gb
    have hb : b = 0 := by omega
    subst hb
    unfold good at ga
    refine E.succ (Ev.bind (both_is a 0) (E.pos (decide_eq_true ⟨ga, gb⟩) (E.pos (by rfl) (E.now ?_))))
    rw [E.w64 (by omega) (by omega)]
    unfold mx
    simp
    omega
  | succ m ih =>
    intro a b h ga gb
    by_cases hb : b = 0
    · exact ih a b (by omega) ga gb
    · refine E.succ (Ev.bind (both_is a b) (E.pos (decide_eq_true ⟨ga, gb⟩) (E.neg hb ?_)))
      have e := Int.natAbs_tmod a b
      have lt := Nat.mod_lt a.natAbs (show 0 < b.natAbs by omega)
      have gb' := gb
      unfold good at gb'
      have r := ih b (Int.tmod a b) (by omega) gb (by unfold good; omega)
      rw [e, Nat.gcd_comm, ← Nat.gcd_rec, Nat.gcd_comm] at r
      exact Ev.bind r (Ev.now _)
theorem rGcd_l : ∀ (m : Nat) (a b : Nat), b ≤ m → Ev (fun k => octavoref05_Gcd.l0 k a b) ((Nat.gcd a b : Nat) : Int) := by
  intro m
  induction m with
  | zero =>
    intro a b h
    have hb : b = 0 := by omega
    subst hb
    exact E.succ (E.neg (by omega) (E.now (by simp)))
  | succ m ih =>
    intro a b h
    by_cases hb : b = 0
    · exact ih a b (by omega)
    · have lt := Nat.mod_lt a (show 0 < b by omega)
      have r := ih b (a % b) (by omega)
      rw [Nat.gcd_comm, ← Nat.gcd_rec, Nat.gcd_comm] at r
      refine E.succ (E.pos (by omega) (E.neg (by omega) ?_))
      rw [show Int.tmod (a : Int) (b : Int) = ((a % b : Nat) : Int) by rw [Int.tmod_eq_emod_of_nonneg (by omega)]; omega]
      exact r
theorem Gcd_is (a b : Int) : ∃ r, Ev (fun k => num_Gcd.f k a b) r ∧ Ev (fun k => octavoref05_Gcd.f k a b) r := by
  have no : Ev (fun k => octavoref05_Gcd.j0 k a b true) 0 := by
    refine E.succ ?_
    simp only [octavoref05_Gcd.j0]
    exact E.pos trivial (Ev.now _)
  by_cases ga : good a
  · by_cases gb : good b
    · refine ⟨_, Gcd_l b.natAbs a b (by omega) ga gb, E.bindn (rGood_is a) (E.pos (decide_eq_true ga) (E.bindn (rGood_is b) (E.succ (E.neg (by simp [gb]) (E.bindn (abs_is ga) (E.bindn (abs_is gb) ?_))))))⟩
      rw [ab_nat, ab_nat]
      exact rGcd_l b.natAbs _ _ (by omega)
    · refine ⟨0, E.succ (Ev.bind (both_is a b) (E.neg (by simp [gb]) (Ev.now _))), E.bindn (rGood_is a) (E.pos (decide_eq_true ga) (E.bindn (rGood_is b) ?_))⟩
      rw [show (!decide (good b)) = true by simp [gb]]
      exact no
  · exact ⟨0, E.succ (Ev.bind (both_is a b) (E.neg (by simp [ga]) (Ev.now _))), E.bindn (rGood_is a) (E.neg (by simp [ga]) no)⟩
end Go.Proofs.YtficjmgofbdohaaDoor.Nm
