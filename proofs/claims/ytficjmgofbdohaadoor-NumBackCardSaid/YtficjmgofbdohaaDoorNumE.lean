/- What products, quotients and rests of numbers come to, in the program and in the document's answer. -/
import Derived.Test.YtficjmgofbdohaaDoorNumD
import Derived.Test.YtficjmgofbdohaaDoorPx1
import Derived.Test.YtficjmgofbdohaaDoorPx2
import Derived.Test.YtficjmgofbdohaaDoorPx4
namespace Go.Proofs.YtficjmgofbdohaaDoor.Nm
open Go.RowKit Go.Proofs.YtficjmgofbdohaaDoor.P Go.Proofs.YtficjmgofbdohaaDoorW.PrintWords Go.Proofs.YtficjmgofbdohaaDoorW.PrintLast
set_option linter.unusedVariables false
set_option linter.unusedSimpArgs false

def ab (n : Int) : Int := if n < 0 then -n else n
theorem ab_bd {n : Int} (g : good n) : 0 ≤ ab n ∧ ab n ≤ 100000000000 := by unfold good at g; unfold ab; split <;> omega
theorem size_is {n : Int} (h : -9223372036854775808 ≤ n) (k : n ≤ 9223372036854775807) : num_size.f n = some (ab n) := by
  unfold num_size.f ab
  by_cases c : n < 0
  · rw [if_pos c, if_pos c]
    simp only [IntKind.wrap_u64, Option.some.injEq]
    omega
  · rw [if_neg c, if_neg c]
    simp only [IntKind.wrap_u64, Option.some.injEq]
    omega
theorem both_step {l : List Int} {n i : Int} {r : Bool} (h1 : i < n) (h0 : 0 ≤ i) (h2 : i < (l.length : Int)) (h : Ev (fun k => (num_Good.f (rd l i)).bind fun t => if t = true then num_both.l0 k l n (wrap64 (i + 1)) else some false) r) : Ev (fun k => num_both.l0 k l n i) r := E.succ (E.pos h1 (E.pos h0 (E.pos h2 h)))
theorem both_end {l : List Int} {n i : Int} (h : ¬ i < n) : Ev (fun k => num_both.l0 k l n i) true := E.succ (E.neg h (Ev.now _))
theorem both_is (a b : Int) : Ev (fun k => num_both.f k [a, b]) (decide (good a ∧ good b)) := by
  have r0 : rd ([a, b] : List Int) 0 = a := rfl
  have r1 : rd ([a, b] : List Int) 1 = b := rfl
  show Ev (fun k => num_both.l0 k [a, b] 2 0) _
  refine both_step (by omega) (by omega) (by simp) ?_
  rw [r0]
  refine E.bindn (Good_is a) ?_
  by_cases ga : good a
  · refine E.pos (decide_eq_true ga) ?_
    rw [show wrap64 (0 + 1) = 1 by decide +kernel]
    refine both_step (by omega) (by omega) (by simp) ?_
    rw [r1]
    refine E.bindn (Good_is b) ?_
    by_cases gb : good b
    · refine E.pos (decide_eq_true gb) ?_
      rw [show wrap64 (1 + 1) = 2 by decide +kernel, decide_eq_true (show good a ∧ good b from ⟨ga, gb⟩)]
      exact both_end (by omega)
    · rw [decide_eq_false (show ¬ (good a ∧ good b) from fun h => gb h.2)]
      exact E.neg (by simp [gb]) (Ev.now _)
  · rw [decide_eq_false (show ¬ (good a ∧ good b) from fun h => ga h.1)]
    exact E.neg (by simp [ga]) (Ev.now _)

/-- with a product's sign -/
def sgn (u a b : Int) : Int × Bool := if u > 100000000000 then (0, false) else if ((decide (a < 0)) != (decide (b < 0))) = true then (-u, true) else (u, true)
theorem signed_is {u a b : Int} (h : 0 ≤ u) : num_signed.f u a b = some (sgn u a b) := by
  unfold num_signed.f sgn
  by_cases c : u > 100000000000
  · rw [if_pos c, if_pos c]
  · rw [if_neg c, if_neg c]
    by_cases z : ((decide (a < 0)) != (decide (b < 0))) = true
    · rw [if_pos z, if_pos z, E.w64 (x := u) (by omega) (by omega), E.w64 (by omega) (by omega)]
    · rw [if_neg z, if_neg z, E.w64 (x := u) (by omega) (by omega)]
theorem scaled_is {x y z : Int} (hx : 0 ≤ x) (kx : x ≤ 100000000000) (hy : 0 ≤ y) (ky : y ≤ 100000000000) (hz : 0 < z) (c : z = 10000 ∨ (y = 10000 ∧ z ≤ 100000000000)) :
    Ev (fun k => num_scaled.f k x y z) ((x * y + z / 2) / z, true) := by
  have m := mul64_is (x := x) (y := y) hx (by omega) hy (by omega)
  have p0 := Int.mul_nonneg hx hy
  have p1 : x * y ≤ 10000000000000000000000 := by
    have a := Int.mul_le_mul_of_nonneg_right kx hy
    have b := Int.mul_le_mul_of_nonneg_left ky (show (0 : Int) ≤ 100000000000 by omega)
    omega
  have p2 : y = 10000 → x * y ≤ 1000000000000000 := fun e => by subst e; omega
  generalize x * y = p at *
  refine E.pos (by omega) (E.bindn m ?_)
  simp only
  refine E.pos (by omega) (E.pos (by omega) (E.pos (by omega) (E.pos (by omega) (E.pos (by omega) (E.neg (by omega) ?_)))))
  by_cases h0 : p / 18446744073709551616 + (p % 18446744073709551616 + z / 2) / 18446744073709551616 = 0
  · rw [h0]
    obtain ⟨r, hr⟩ := div64_low (lo := (p % 18446744073709551616 + z / 2) % 18446744073709551616) (z := z) (by omega) (by omega) hz
    refine Ev.bind hr (E.now ?_)
    have : (p % 18446744073709551616 + z / 2) % 18446744073709551616 = p + z / 2 := by omega
    rw [this]
  · have e : z = 10000 := by omega
    subst e
    obtain ⟨r, hr⟩ := div64_high (hi := p / 18446744073709551616 + (p % 18446744073709551616 + 10000 / 2) / 18446744073709551616) (lo := (p % 18446744073709551616 + 10000 / 2) % 18446744073709551616) (by omega) (by omega) (by omega) (by omega)
    refine Ev.bind hr (E.now ?_)
    simp only [Prod.mk.injEq, and_true]
    omega

def mul (a b : Int) : Int × Bool := if good a ∧ good b then sgn ((ab a * ab b + 5000) / 10000) a b else (0, false)
def div (a b : Int) : Int × Bool := if good a ∧ good b ∧ b ≠ 0 then sgn ((ab a * 10000 + ab b / 2) / ab b) a b else (0, false)

theorem prod_bd {x y : Int} (hx : 0 ≤ x) (kx : x ≤ 100000000000) (hy : 0 ≤ y) (ky : y ≤ 100000000000) : 0 ≤ x * y ∧ x * y ≤ 10000000000000000000000 := by
  have a := Int.mul_le_mul_of_nonneg_right kx hy
  have b := Int.mul_le_mul_of_nonneg_left ky (show (0 : Int) ≤ 100000000000 by omega)
  exact ⟨Int.mul_nonneg hx hy, by omega⟩

theorem Mul_is (a b : Int) : Ev (fun k => num_Mul.f k a b) (mul a b) := by
  refine Ev.bind (both_is a b) ?_
  unfold mul
  by_cases g : good a ∧ good b
  · rw [if_pos g]
    have ga := g.1; have gb := g.2
    have ba := ab_bd ga; have bb := ab_bd gb
    unfold good at ga gb
    have pb := prod_bd ba.1 ba.2 bb.1 bb.2
    refine E.pos (decide_eq_true g) (E.bindn (size_is (by omega) (by omega)) (E.bindn (size_is (by omega) (by omega)) (Ev.bind (scaled_is ba.1 ba.2 bb.1 bb.2 (by omega) (.inl rfl)) (E.pos (by rfl) ?_))))
    exact E.bindn (signed_is (by simp only; omega)) (Ev.now _)
  · rw [if_neg g]
    exact E.neg (by simpa using g) (Ev.now _)

theorem ab_pos {b : Int} (h : b ≠ 0) : 0 < ab b := by unfold ab; split <;> omega

theorem Div_is (a b : Int) : Ev (fun k => num_Div.f k a b) (div a b) := by
  have no : Ev (fun k => num_Div.j0 k a b true) (0, false) := by
    refine E.succ ?_
    simp only [num_Div.j0]
    exact E.pos trivial (Ev.now _)
  refine Ev.bind (both_is a b) ?_
  unfold div
  by_cases g : good a ∧ good b
  · by_cases z : b = 0
    · rw [if_neg (fun h => h.2.2 z)]
      refine E.pos (decide_eq_true g) ?_
      rw [show (b == 0) = true by simp [z]]
      exact no
    · rw [if_pos ⟨g.1, g.2, z⟩]
      have ga := g.1; have gb := g.2
      have ba := ab_bd ga; have bb := ab_bd gb
      have bp := ab_pos z
      unfold good at ga gb
      refine E.pos (decide_eq_true g) (E.succ (E.neg (by simp [z]) (E.bindn (size_is (by omega) (by omega)) (E.bindn (size_is (by omega) (by omega)) (Ev.bind (scaled_is ba.1 ba.2 (by omega) (by omega) bp (.inr ⟨rfl, bb.2⟩)) (E.pos (by rfl) ?_))))))
      exact E.bindn (signed_is (Int.ediv_nonneg (by omega) (by omega))) (Ev.now _)
  · rw [if_neg (fun h => g ⟨h.1, h.2.1⟩)]
    exact E.neg (by simpa using g) no

theorem near {x y : Int} (hx : 0 ≤ x) (hy : 0 < y) : (x + y / 2) / y = x / y + if 2 * (x % y) ≥ y then 1 else 0 := by
  have e := Int.mul_ediv_add_emod x y
  have r0 := Int.emod_nonneg x (show y ≠ 0 by omega)
  have r1 := Int.emod_lt_of_pos x hy
  have : x + y / 2 = (x % y + y / 2) + y * (x / y) := by omega
  rw [this, Int.add_mul_ediv_left _ _ (show y ≠ 0 by omega)]
  generalize x % y = r at *
  by_cases c : 2 * r ≥ y
  · rw [if_pos c]
    have : (r + y / 2) / y = 1 := by
      have : r + y / 2 = (r + y / 2 - y) + y * 1 := by omega
      rw [this, Int.add_mul_ediv_left _ _ (show y ≠ 0 by omega), Int.ediv_eq_zero_of_lt (by omega) (by omega)]; omega
    omega
  · rw [if_neg c, Int.ediv_eq_zero_of_lt (by omega) (by omega)]; omega

end Go.Proofs.YtficjmgofbdohaaDoor.Nm
