/- What roots, factorials and whole numbers come to, in the program and in the document's answer. -/
import Derived.Test.YtficjmgofbdohaaDoorNumA
import Derived.Test.YtficjmgofbdohaaDoorPx4
import Derived.Test.YtficjmgofbdohaaDoorPx5
import Derived.Test.YtficjmgofbdohaaDoorPx6
namespace Go.Proofs.YtficjmgofbdohaaDoor.Nm
open Go.RowKit Go.Proofs.YtficjmgofbdohaaDoor.P Go.Proofs.YtficjmgofbdohaaDoorW.PrintWords Go.Proofs.YtficjmgofbdohaaDoorW.PrintLast
set_option linter.unusedVariables false
set_option linter.unusedSimpArgs false

theorem same_is (a : Int) (b : Bool) : octavolaw05_same.f a b a b = some true := by unfold octavolaw05_same.f; simp

/-- r is the root of s, rounded down -/
def isq (s r : Int) : Prop := 0 ≤ r ∧ r * r ≤ s ∧ s < (r + 1) * (r + 1)
theorem isq_uniq {s r q : Int} (h : isq s r) (k : isq s q) : r = q := by
  obtain ⟨h1, h2, h3⟩ := h; obtain ⟨k1, k2, k3⟩ := k
  have a : ¬ r < q := fun c => by have := Int.mul_self_le_mul_self (show 0 ≤ r + 1 by omega) (show r + 1 ≤ q by omega); omega
  have b : ¬ q < r := fun c => by have := Int.mul_self_le_mul_self (show 0 ≤ q + 1 by omega) (show q + 1 ≤ r by omega); omega
  omega

theorem shl_is : ∀ p : Fin 26, shl .i64 1 (IntKind.u64.wrap (p.val : Int)) = ((2 ^ p.val : Nat) : Int) ∧ 0 ≤ IntKind.u64.wrap (p.val : Int) := by decide +kernel
theorem two_bd (p : Nat) (h : p ≤ 26) : (1 : Int) ≤ ((2 ^ p : Nat) : Int) ∧ ((2 ^ p : Nat) : Int) ≤ 67108864 := by
  have a := Nat.pow_le_pow_right (show 0 < 2 by omega) h
  have b := Nat.pow_pos (n := p) (show 0 < 2 by omega)
  have : (2 ^ 26 : Nat) = 67108864 := by decide
  omega
theorem two_succ (j : Nat) : ((2 ^ (j + 1) : Nat) : Int) = ((2 ^ j : Nat) : Int) * 2 := by
  rw [Nat.pow_succ]; omega
/-- the whole number that it is -/
def whole (n : Int) : Int × Bool := if good n ∧ Int.tmod n 10000 = 0 then (Int.tdiv n 10000, true) else (0, false)
theorem Whole_is (n : Int) : num_Whole.f n = some (whole n) ∧ octavoref05_Whole.f n = some (whole n) := by
  unfold num_Whole.f octavoref05_Whole.f whole
  rw [Good_is, rGood_is]
  by_cases g : good n
  · by_cases c : Int.tmod n 10000 = 0
    · obtain ⟨q, r, hq, hr, e, s1, s2, p, m⟩ := tq (a := n) (b := 10000) (by omega)
      have bd := abs_q (by omega) e s1 s2 p m g
      rw [hr] at c
      simp [g, hr, hq, c, E.w64 (x := q) (by omega) (by omega)]
    · simp [g, c]
  · simp [g]

end Go.Proofs.YtficjmgofbdohaaDoor.Nm
