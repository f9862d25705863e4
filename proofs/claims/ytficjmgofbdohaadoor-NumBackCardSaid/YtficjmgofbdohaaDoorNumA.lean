/- What the short functions on numbers come to: good ones, floors, rounding. -/
import Derived.Test.YtficjmgofbdohaaDoorE
import Derived.Test.YtficjmgofbdohaaDoorPx1
import Derived.Test.YtficjmgofbdohaaDoorPx2
import Derived.Test.YtficjmgofbdohaaDoorPx4
import Derived.Test.YtficjmgofbdohaaDoorPx5
import Derived.Test.YtficjmgofbdohaaDoorPx7
import Derived.Test.YtficjmgofbdohaaDoorPx9
namespace Go.Proofs.YtficjmgofbdohaaDoor.Nm
open Go.RowKit Go.Proofs.YtficjmgofbdohaaDoor.P Go.Proofs.YtficjmgofbdohaaDoorW.PrintWords Go.Proofs.YtficjmgofbdohaaDoorW.PrintLast
set_option linter.unusedVariables false
set_option linter.unusedSimpArgs false

theorem lives_is : Ev (fun k => octavolaw05_lives.f k) true :=
  Ev.of (k := 400) (fun k => octavolaw05_lives.mono k) (by decide +kernel)

abbrev good (n : Int) : Prop := -100000000000 ≤ n ∧ n ≤ 100000000000
theorem Good_is (n : Int) : num_Good.f n = some (decide (good n)) := by
  unfold num_Good.f good
  split <;> simp <;> omega
theorem rGood_is (n : Int) : octavoref05_Good.f n = some (decide (good n)) := by
  unfold octavoref05_Good.f good
  split <;> simp <;> omega
/-- an answer, if it is good -/
def out (n : Int) : Int × Bool := if good n then (n, true) else (0, false)
theorem told_is (n : Int) : num_told.f n = some (out n) := by
  unfold num_told.f out
  rw [Good_is]
  by_cases c : good n <;> simp [c]
theorem rout_is (n : Int) : octavoref05_out.f n = some (out n) := by
  unfold octavoref05_out.f out
  rw [rGood_is]
  by_cases c : good n <;> simp [c]

theorem msb_ofInt {x : Int} (h : -9223372036854775808 ≤ x) (k : x ≤ 9223372036854775807) : (BitVec.ofInt 64 x).msb = decide (x < 0) := by
  rw [BitVec.msb_eq_toInt, BitVec.toInt_ofInt]
  congr 1
  rw [Int.bmod_eq_of_le (by omega) (by omega)]
theorem xor_neg {x y : Int} (h : -9223372036854775808 ≤ x) (k : x ≤ 9223372036854775807) (h' : -9223372036854775808 ≤ y) (k' : y ≤ 9223372036854775807) :
    (Go.bits .xor .i64 x y < 0) ↔ ((decide (x < 0)) != (decide (y < 0))) = true := by
  have e : Go.bits .xor .i64 x y = (BitVec.ofInt 64 x ^^^ BitVec.ofInt 64 y).toInt := by
    show IntKind.i64.wrap ((BitVec.ofInt 64 x ^^^ BitVec.ofInt 64 y).toNat : Int) = _
    have := (BitVec.ofInt 64 x ^^^ BitVec.ofInt 64 y).isLt
    rw [BitVec.toInt_eq_toNat_bmod]
    simp [IntKind.wrap, IntKind.bits, IntKind.signed, Int.bmod]
    omega
  rw [e, ← msb_ofInt h k, ← msb_ofInt h' k', show ((BitVec.ofInt 64 x).msb != (BitVec.ofInt 64 y).msb) = (BitVec.ofInt 64 x ^^^ BitVec.ofInt 64 y).msb from by rw [BitVec.msb_xor], BitVec.msb_eq_toInt]
  simp

/-- the greatest whole number that is at most a / b -/
def flr (a b : Int) : Int := if 0 < b then a / b else (-a) / (-b)
theorem tq {a b : Int} (hb : b ≠ 0) : ∃ q r : Int, Int.tdiv a b = q ∧ Int.tmod a b = r ∧ a = b * q + r ∧ (0 ≤ a → 0 ≤ r) ∧ (a ≤ 0 → r ≤ 0) ∧ (0 < b → r < b ∧ -b < r) ∧ (b < 0 → r < -b ∧ b < r) := by
  refine ⟨_, _, rfl, rfl, (Int.mul_tdiv_add_tmod a b).symm, fun h => Int.tmod_nonneg b h, fun h => ?_, fun h => ⟨Int.tmod_lt_of_pos a h, ?_⟩, fun h => ⟨?_, ?_⟩⟩
  · have := Int.tmod_nonneg b (show 0 ≤ -a by omega)
    rw [Int.neg_tmod] at this; omega
  · have := Int.tmod_lt_of_pos (-a) h
    rw [Int.neg_tmod] at this; omega
  · have := Int.tmod_lt_of_pos a (show 0 < -b by omega)
    rw [Int.tmod_neg] at this; omega
  · have := Int.tmod_lt_of_pos (-a) (show 0 < -b by omega)
    rw [Int.tmod_neg, Int.neg_tmod] at this; omega
theorem flr_bd {a b : Int} (hb : b ≠ 0) : ∃ r : Int, a = b * flr a b + r ∧ (0 < b → 0 ≤ r ∧ r < b) ∧ (b < 0 → r ≤ 0 ∧ b < r) := by
  unfold flr
  by_cases h : 0 < b
  · rw [if_pos h]
    exact ⟨a % b, (Int.mul_ediv_add_emod a b).symm, fun _ => ⟨Int.emod_nonneg _ hb, Int.emod_lt_of_pos _ h⟩, fun _ => by omega⟩
  · rw [if_neg h]
    have e := Int.mul_ediv_add_emod (-a) (-b)
    have l := Int.emod_nonneg (-a) (show -b ≠ 0 by omega)
    have u := Int.emod_lt_of_pos (-a) (show 0 < -b by omega)
    refine ⟨-((-a) % (-b)), ?_, fun _ => by omega, fun _ => by omega⟩
    rw [Int.neg_mul] at e
    omega
theorem uq {b q q' r r' : Int} (h : b * q + r = b * q' + r') (s : (0 < b ∧ 0 ≤ r ∧ r < b ∧ 0 ≤ r' ∧ r' < b) ∨ (b < 0 ∧ r ≤ 0 ∧ b < r ∧ r' ≤ 0 ∧ b < r')) : q = q' ∧ r = r' := by
  have e : b * (q - q') = r' - r := by rw [Int.mul_sub]; omega
  have : q - q' = 0 := by
    rcases s with s | s
    · by_cases c : q - q' = 0
      · exact c
      · exfalso
        by_cases c' : 0 < q - q'
        · have := Int.mul_le_mul_of_nonneg_left (show 1 ≤ q - q' by omega) (show 0 ≤ b by omega)
          omega
        · have := Int.mul_le_mul_of_nonneg_left (show q - q' ≤ -1 by omega) (show 0 ≤ b by omega)
          omega
    · by_cases c : q - q' = 0
      · exact c
      · exfalso
        by_cases c' : 0 < q - q'
        · have := Int.mul_le_mul_of_nonneg_left (show 1 ≤ q - q' by omega) (show 0 ≤ -b by omega)
          simp only [Int.neg_mul] at this
          omega
        · have := Int.mul_le_mul_of_nonneg_left (show q - q' ≤ -1 by omega) (show 0 ≤ -b by omega)
          simp only [Int.neg_mul] at this
          omega
  have hq : q = q' := by omega
  subst hq
  exact ⟨rfl, by omega⟩
theorem abs_q {a b q r : Int} (hb : b ≠ 0) (e : a = b * q + r) (s1 : 0 ≤ a → 0 ≤ r) (s2 : a ≤ 0 → r ≤ 0) (p : 0 < b → r < b ∧ -b < r) (n : b < 0 → r < -b ∧ b < r) (g : good a) : -100000000000 ≤ q ∧ q ≤ 100000000000 := by
  unfold good at g
  have key : ∀ t x : Int, 0 < t → (t * x ≤ 100000000000 → x ≤ 100000000000) ∧ (-100000000000 ≤ t * x → -100000000000 ≤ x) ∧ (-t < t * x → 0 ≤ x) ∧ (t * x < t → x ≤ 0) := fun t x ht => by
    refine ⟨fun h => ?_, fun h => ?_, fun h => ?_, fun h => ?_⟩
    · by_cases c : 0 ≤ x
      · have := Int.mul_le_mul_of_nonneg_right (show 1 ≤ t by omega) c; omega
      · omega
    · by_cases c : 0 ≤ -x
      · have := Int.mul_le_mul_of_nonneg_right (show 1 ≤ t by omega) c; simp only [Int.mul_neg] at this; omega
      · omega
    · by_cases c : 0 ≤ x
      · exact c
      · have := Int.mul_le_mul_of_nonneg_left (show x ≤ -1 by omega) (show 0 ≤ t by omega); omega
    · by_cases c : x ≤ 0
      · exact c
      · have := Int.mul_le_mul_of_nonneg_left (show 1 ≤ x by omega) (show 0 ≤ t by omega); omega
  by_cases h : 0 < b
  · obtain ⟨k1, k2, k3, k4⟩ := key b q h
    have := p h
    by_cases z : 0 ≤ a
    · have := s1 z; exact ⟨by have := k3 (by omega); omega, k1 (by omega)⟩
    · have := s2 (by omega); exact ⟨k2 (by omega), by have := k4 (by omega); omega⟩
  · obtain ⟨k1, k2, k3, k4⟩ := key (-b) (-q) (by omega)
    rw [Int.neg_mul_neg] at k1 k2 k3 k4
    have := n (by omega)
    by_cases z : 0 ≤ a
    · have := s1 z; have := k1 (by omega); have := k3 (by omega); omega
    · have := s2 (by omega); have := k2 (by omega); have := k4 (by omega); omega
theorem flr_of {a b q r : Int} (hb : b ≠ 0) (e : a = b * q + r) (s : (0 < b ∧ 0 ≤ r ∧ r < b) ∨ (b < 0 ∧ r ≤ 0 ∧ b < r)) : flr a b = q := by
  obtain ⟨r', e', p, n⟩ := flr_bd (a := a) hb
  refine (uq (b := b) (r := r') (r' := r) (by omega) ?_).1
  rcases s with s | s
  · have := p s.1; omega
  · have := n s.1; omega
theorem floor_is {a b : Int} (hb : b ≠ 0) (ga : good a) (gb : -9223372036854775807 ≤ b ∧ b ≤ 9223372036854775807) : num_floor.f a b = some (flr a b) ∧ octavoref05_floor.f a b = some (flr a b) := by
  obtain ⟨q, r, hq, hr, e, s1, s2, p, n⟩ := tq (a := a) hb
  have bd := abs_q hb e s1 s2 p n ga
  unfold good at ga
  unfold num_floor.f octavoref05_floor.f
  rw [hq, hr, if_neg hb, if_neg hb]
  by_cases c : r = 0
  · rw [if_pos c, if_pos c, E.w64 (by omega) (by omega), flr_of hb e (by subst c; omega)]
    exact ⟨rfl, rfl⟩
  · rw [if_neg c, if_neg c]
    have hr1 : -9223372036854775808 ≤ r ∧ r ≤ 9223372036854775807 := by
      by_cases h : 0 < b
      · have := p h; omega
      · have := n (by omega); omega
    have hx := xor_neg hr1.1 hr1.2 (show -9223372036854775808 ≤ b by omega) gb.2
    have sg : decide (a < 0) = decide (r < 0) := by
      by_cases z : a < 0
      · have := s2 (by omega); simp [z]; omega
      · have := s1 (by omega); simp [z]; omega
    rw [sg]
    by_cases z : ((decide (r < 0)) != (decide (b < 0))) = true
    · rw [if_pos (hx.2 z), if_pos z, E.w64 (x := q) (by omega) (by omega), E.w64 (by omega) (by omega)]
      have z' : (r < 0 ∧ 0 < b) ∨ (0 < r ∧ b < 0) := by
        by_cases z1 : r < 0 <;> by_cases z2 : b < 0 <;> simp [z1, z2] at z <;> omega
      have e2 : a = b * (q - 1) + (r + b) := by rw [Int.mul_sub]; omega
      rw [flr_of hb e2 (by rcases z' with z' | z'; · have := p z'.2; omega
                           · have := n z'.2; omega)]
      exact ⟨rfl, rfl⟩
    · rw [if_neg (fun h => z (hx.1 h)), if_neg z, E.w64 (x := q) (by omega) (by omega)]
      have z' : (0 ≤ r ∧ 0 < b) ∨ (r ≤ 0 ∧ b < 0) := by
        by_cases z1 : r < 0 <;> by_cases z2 : b < 0 <;> simp [z1, z2] at z <;> omega
      rw [flr_of hb e (by rcases z' with z' | z'; · have := p z'.2; omega
                          · have := n z'.2; omega)]
      exact ⟨rfl, rfl⟩
end Go.Proofs.YtficjmgofbdohaaDoor.Nm
