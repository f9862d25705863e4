/- What roots, factorials and whole numbers come to, in the program and in the document's answer. -/
import Derived.Test.YtficjmgofbdohaaDoorNumA
import Derived.Test.YtficjmgofbdohaaDoorPx4
import Derived.Test.YtficjmgofbdohaaDoorPx9
namespace Go.Proofs.YtficjmgofbdohaaDoor.Nm
open Go.RowKit Go.Proofs.YtficjmgofbdohaaDoor.P Go.Proofs.YtficjmgofbdohaaDoorW.PrintWords Go.Proofs.YtficjmgofbdohaaDoorW.PrintLast
set_option linter.unusedVariables false
set_option linter.unusedSimpArgs false

/-- r is the root of s, rounded down -/
def isq (s r : Int) : Prop := 0 ≤ r ∧ r * r ≤ s ∧ s < (r + 1) * (r + 1)
theorem isq_uniq {s r q : Int} (h : isq s r) (k : isq s q) : r = q := by
  obtain ⟨h1, h2, h3⟩ := h; obtain ⟨k1, k2, k3⟩ := k
  have a : ¬ r < q := fun c => by have := Int.mul_self_le_mul_self (show 0 ≤ r + 1 by omega) (show r + 1 ≤ q by omega); omega
  have b : ¬ q < r := fun c => by have := Int.mul_self_le_mul_self (show 0 ≤ q + 1 by omega) (show q + 1 ≤ r by omega); omega
  omega

theorem Sqrt_l {s : Int} : ∀ (m : Nat) (lo hi : Int), hi - lo ≤ m → 0 ≤ lo → lo < hi → hi ≤ 40000000 → lo * lo ≤ s → s < hi * hi → ∃ r, isq s r ∧ Ev (fun k => num_Sqrt.l0 k s lo hi) (r, true) := by
  intro m
  induction m with
  | zero => intro lo hi a b c; omega
  | succ m ih =>
    intro lo hi a b c d e f
    by_cases g : hi - lo > 1
    · have hm : Int.tdiv (lo + hi) 2 = (lo + hi) / 2 := Int.tdiv_eq_ediv_of_nonneg (by omega)
      have sq := Int.mul_self_le_mul_self (show 0 ≤ (lo + hi) / 2 by omega) (show (lo + hi) / 2 ≤ 40000000 by omega)
      have sq0 := Int.mul_nonneg (show 0 ≤ (lo + hi) / 2 by omega) (show 0 ≤ (lo + hi) / 2 by omega)
      have step : ∀ r, (if (lo + hi) / 2 * ((lo + hi) / 2) ≤ s then Ev (fun k => num_Sqrt.l0 k s ((lo + hi) / 2) hi) r else Ev (fun k => num_Sqrt.l0 k s lo ((lo + hi) / 2)) r) → Ev (fun k => num_Sqrt.l0 k s lo hi) r := fun r h => by
        refine E.succ (E.pos (by rw [E.w64 (by omega) (by omega)]; exact g) ?_)
        rw [E.w64 (x := lo + hi) (by omega) (by omega), hm, E.w64 (x := (lo + hi) / 2) (by omega) (by omega), E.w64 (x := (lo + hi) / 2 * ((lo + hi) / 2)) (by omega) (by omega)]
        by_cases z : (lo + hi) / 2 * ((lo + hi) / 2) ≤ s
        · rw [if_pos z] at h; exact E.pos z h
        · rw [if_neg z] at h; exact E.neg z h
      by_cases z : (lo + hi) / 2 * ((lo + hi) / 2) ≤ s
      · obtain ⟨r, h1, h2⟩ := ih ((lo + hi) / 2) hi (by omega) (by omega) (by omega) d z f
        exact ⟨r, h1, step _ (by rw [if_pos z]; exact h2)⟩
      · obtain ⟨r, h1, h2⟩ := ih lo ((lo + hi) / 2) (by omega) b (by omega) (by omega) e (by omega)
        exact ⟨r, h1, step _ (by rw [if_neg z]; exact h2)⟩
    · have : hi = lo + 1 := by omega
      subst this
      exact ⟨lo, ⟨b, e, f⟩, E.succ (E.neg (by rw [E.w64 (by omega) (by omega)]; exact g) (Ev.now _))⟩

theorem shl_is : ∀ p : Fin 26, shl .i64 1 (IntKind.u64.wrap (p.val : Int)) = ((2 ^ p.val : Nat) : Int) ∧ 0 ≤ IntKind.u64.wrap (p.val : Int) := by decide +kernel
theorem two_bd (p : Nat) (h : p ≤ 26) : (1 : Int) ≤ ((2 ^ p : Nat) : Int) ∧ ((2 ^ p : Nat) : Int) ≤ 67108864 := by
  have a := Nat.pow_le_pow_right (show 0 < 2 by omega) h
  have b := Nat.pow_pos (n := p) (show 0 < 2 by omega)
  have : (2 ^ 26 : Nat) = 67108864 := by decide
  omega
theorem two_succ (j : Nat) : ((2 ^ (j + 1) : Nat) : Int) = ((2 ^ j : Nat) : Int) * 2 := by
  rw [Nat.pow_succ]; omega
theorem rSqrt_l {n : Int} (g : good n) (hn : 0 ≤ n) : ∀ (p : Nat) (x : Int), p ≤ 26 → 0 ≤ x → x * x ≤ n * 10000 → n * 10000 < (x + ((2 ^ p : Nat) : Int)) * (x + ((2 ^ p : Nat) : Int)) → ∃ r, isq (n * 10000) r ∧ Ev (fun k => octavoref05_Sqrt.l0 k n x (p - 1)) (r, true) := by
  unfold good at g
  intro p
  induction p with
  | zero => intro x a b c d; exact ⟨x, ⟨b, c, by simpa using d⟩, E.succ (E.neg (by omega) (Ev.now _))⟩
  | succ p ih =>
    intro x a b c d
    have sh := shl_is ⟨p, by omega⟩
    simp only at sh
    obtain ⟨t1, t2⟩ := two_bd p (by omega)
    have hx : x ≤ 40000000 := by
      by_cases z : x ≤ 40000000
      · exact z
      · have := Int.mul_self_le_mul_self (show (0 : Int) ≤ 40000000 by omega) (show 40000000 ≤ x by omega); omega
    rw [two_succ] at d
    generalize ((2 ^ p : Nat) : Int) = P at *
    have sq := Int.mul_self_le_mul_self (show 0 ≤ x + P by omega) (show x + P ≤ 110000000 by omega)
    have sq0 := Int.mul_nonneg (show 0 ≤ x + P by omega) (show 0 ≤ x + P by omega)
    have step : ∀ r, (if (x + P) * (x + P) ≤ n * 10000 then Ev (fun k => octavoref05_Sqrt.l0 k n (x + P) (p - 1)) r else Ev (fun k => octavoref05_Sqrt.l0 k n x (p - 1)) r) → Ev (fun k => octavoref05_Sqrt.l0 k n x (((p + 1 : Nat) : Int) - 1)) r := fun r h => by
      rw [show ((p + 1 : Nat) : Int) - 1 = p by omega]
      refine E.succ (E.pos (by omega) (E.pos sh.2 ?_))
      rw [sh.1, E.w64 (x := x + P) (by omega) (by omega), E.w64 (x := (x + P) * (x + P)) (by omega) (by omega), E.w64 (x := n * 10000) (by omega) (by omega), E.w64 (x := (p : Int) - 1) (by omega) (by omega)]
      by_cases z : (x + P) * (x + P) ≤ n * 10000
      · rw [if_pos z] at h; exact E.pos z h
      · rw [if_neg z] at h; exact E.neg z h
    by_cases z : (x + P) * (x + P) ≤ n * 10000
    · obtain ⟨r, h1, h2⟩ := ih (x + P) (by omega) (by omega) z (by rw [show x + P + P = x + P * 2 by omega]; exact d)
      exact ⟨r, h1, step _ (by rw [if_pos z]; exact h2)⟩
    · obtain ⟨r, h1, h2⟩ := ih x (by omega) b c (by omega)
      exact ⟨r, h1, step _ (by rw [if_neg z]; exact h2)⟩

theorem Sqrt_is (n : Int) : ∃ r : Int × Bool, Ev (fun k => num_Sqrt.f k n) r ∧ Ev (fun k => octavoref05_Sqrt.f k n) r ∧ (r.2 = true ↔ good n ∧ 0 ≤ n) ∧ (r.2 = true → isq (n * 10000) r.1 ∧ r.1 ≤ 40000000) := by
  by_cases c : good n ∧ 0 ≤ n
  · obtain ⟨g, h⟩ := c
    have g' := g
    unfold good at g'
    obtain ⟨r, h1, h2⟩ := Sqrt_l (s := n * 10000) 40000000 0 40000000 (by omega) (by omega) (by omega) (by omega) (by omega) (by omega)
    obtain ⟨q, k1, k2⟩ := rSqrt_l g h 26 0 (by omega) (by omega) (by omega) (by
      have : ((2 ^ 26 : Nat) : Int) = 67108864 := by decide
      rw [this]; omega)
    have e := isq_uniq h1 k1
    subst e
    refine ⟨(r, true), E.bindn (Good_is n) (E.pos (decide_eq_true g) (E.succ ?_)), E.bindn (rGood_is n) (E.pos (decide_eq_true g) (E.succ ?_)), ⟨fun _ => ⟨g, h⟩, fun _ => rfl⟩, fun _ => ⟨h1, ?_⟩⟩
    · refine E.neg (by simp; omega) ?_
      rw [E.w64 (x := n * 10000) (by omega) (by omega)]
      exact h2
    · exact E.neg (by simp; omega) (by simpa using k2)
    · obtain ⟨a1, a2, a3⟩ := h1
      by_cases z : r ≤ 40000000
      · exact z
      · have := Int.mul_self_le_mul_self (show (0 : Int) ≤ 40000000 by omega) (show 40000000 ≤ r by omega); omega
  · have no1 : Ev (fun k => num_Sqrt.j0 k n true) (0, false) := by
      refine E.succ ?_
      simp only [num_Sqrt.j0]
      exact E.pos trivial (Ev.now _)
    have no2 : Ev (fun k => octavoref05_Sqrt.j0 k n true) (0, false) := by
      refine E.succ ?_
      simp only [octavoref05_Sqrt.j0]
      exact E.pos trivial (Ev.now _)
    refine ⟨(0, false), E.bindn (Good_is n) (E.ite (fun a => ?_) (fun _ => no1)), E.bindn (rGood_is n) (E.ite (fun a => ?_) (fun _ => no2)), ⟨(fun a => by cases a), (fun a => absurd a c)⟩, (fun h => by cases h)⟩
    · rw [show decide (n < 0) = true by have := of_decide_eq_true a; simp; omega]; exact no1
    · rw [show decide (n < 0) = true by have := of_decide_eq_true a; simp; omega]; exact no2

/-- the whole number that it is -/
def whole (n : Int) : Int × Bool := if good n ∧ Int.tmod n 10000 = 0 then (Int.tdiv n 10000, true) else (0, false)
end Go.Proofs.YtficjmgofbdohaaDoor.Nm
