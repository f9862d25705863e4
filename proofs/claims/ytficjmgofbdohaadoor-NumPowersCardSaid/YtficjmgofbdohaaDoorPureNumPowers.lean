/- Each power is the one ahead times the number: for every number of int's kind. -/
import Derived.Test.YtficjmgofbdohaaDoorNumF
import Derived.Test.YtficjmgofbdohaaDoorPx10
import Derived.Test.YtficjmgofbdohaaDoorPx7
namespace Go.Proofs.YtficjmgofbdohaaDoor.Pure
open Go.RowKit Go.Proofs.YtficjmgofbdohaaDoor.P Go.Proofs.YtficjmgofbdohaaDoor.Nm Go.Proofs.YtficjmgofbdohaaDoorW.PrintWords Go.Proofs.YtficjmgofbdohaaDoorW.PrintLast
set_option linter.unusedVariables false
set_option linter.unusedSimpArgs false

theorem fin_lives : Ev (fun n => (octavolaw05_lives.f n).bind fun t => some t) true := Ev.bind lives_is (Ev.now _)

theorem whole_of {n : Int} (h : 0 ≤ n) (k : n ≤ 20) : whole (n * 10000) = (n, true) := by
  unfold whole good
  rw [if_pos ⟨by omega, by rw [Int.tmod_eq_emod_of_nonneg (by omega)]; omega⟩, Int.tdiv_eq_ediv_of_nonneg (by omega)]
  simp only [Prod.mk.injEq, and_true]
  omega
theorem pow_at {a n : Int} (g : good a) (h : 0 ≤ n) (k : n ≤ 20) (z : ¬ (a = 0 ∧ n = 0)) : pow a (n * 10000) = pw a n.toNat 10000 := by
  unfold pow
  rw [whole_of h k]
  simp only
  have e : ab n = n := by unfold ab; rw [if_neg (by omega)]
  rw [if_pos ⟨trivial, g, by omega, by omega, z⟩, e]
  by_cases c : (pw a n.toNat 10000).2 = true
  · rw [if_pos c, if_neg (show ¬ n < 0 by omega)]; exact Prod.ext rfl c.symm
  · rw [if_neg c]
    cases hn : n.toNat with
    | zero => rw [hn] at c; exact absurd rfl c
    | succ m =>
      rw [hn] at c
      rw [pw_snoc] at c ⊢
      by_cases d : (pw a m 10000).2 = true
      · rw [if_pos d] at c ⊢; exact (mul_no c).symm
      · rw [if_neg d]
theorem pow_bad {a n : Int} (g : ¬ good a) : pow a n = (0, false) := by
  unfold pow
  rw [if_neg (fun h => g h.2.1)]
theorem pow_one {a : Int} (g : good a) : pow a 10000 = (a, true) := by
  have e := pow_at (n := 1) g (by omega) (by omega) (by omega)
  rw [show (1 : Int) * 10000 = 10000 by omega] at e
  rw [e]
  show (if (mul 10000 a).2 = true then ((mul 10000 a).1, true) else (0, false)) = (a, true)
  have m : mul 10000 a = (a, true) := by
    have bd := ab_bd g
    unfold mul
    rw [if_pos ⟨by unfold good; omega, g⟩, show ab 10000 = 10000 from rfl, show (10000 * ab a + 5000) / 10000 = ab a by omega]
    unfold sgn
    rw [if_neg (by omega)]
    unfold ab
    by_cases c : a < 0
    · simp [c]
    · simp [c]
  rw [m]; simp

theorem NumPowers : octavolaw05_NumPowers.Pure := by
  intro a d w1 w2
  have b := E.wfu64 w2
  refine Ev.rounds (r := true) ?_
  unfold octavolaw05_NumPowers.f
  have hm : Int.tmod d 20 = d % 20 := Int.tmod_eq_emod_of_nonneg b.1
  rw [hm, E.w64 (x := d % 20) (by omega) (by omega)]
  obtain ⟨n, hn⟩ : ∃ n : Int, n = d % 20 := ⟨_, rfl⟩
  rw [← hn, E.w64 (x := n * 10000) (by omega) (by omega), E.w64 (x := n * 10000 + 10000) (by omega) (by omega)]
  have bn : 0 ≤ n ∧ n ≤ 19 := by omega
  refine Ev.bind (Pow_is _ _) (Ev.bind (Pow_is _ _) ?_)
  have e1 : n * 10000 + 10000 = (n + 1) * 10000 := by omega
  refine E.ite (fun z => ?_) (fun z => ?_)
  · subst z
    refine E.bindn (Good_is a) (E.ite (fun g => ?_) (fun _ => fin_lives))
    have g := of_decide_eq_true g
    rw [show (0 : Int) * 10000 + 10000 = 10000 by omega, pow_one g]
    exact E.pos (by rfl) (E.pos (by rfl) fin_lives)
  · by_cases g : good a
    · rw [e1, pow_at (n := n + 1) g (by omega) (by omega) (by omega), pow_at (n := n) g (by omega) (by omega) (by omega), show (n + 1).toNat = n.toNat + 1 by omega, pw_snoc]
      generalize pw a n.toNat 10000 = q
      by_cases c : q.2 = true
      · rw [if_pos c]
        refine E.pos c (Ev.bind (Mul_is _ _) (E.pos (by simp) (E.ite (fun _ => E.pos (by rfl) fin_lives) (fun _ => fin_lives))))
      · rw [if_neg c]
        exact E.neg c (E.neg (by simp) fin_lives)
    · rw [pow_bad g, pow_bad g]
      exact E.neg (by simp) (E.neg (by simp) fin_lives)
end Go.Proofs.YtficjmgofbdohaaDoor.Pure
