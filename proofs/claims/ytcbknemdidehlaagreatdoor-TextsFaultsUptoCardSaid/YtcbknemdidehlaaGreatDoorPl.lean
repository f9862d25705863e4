/- What the functions come to, in plain words. -/
import Derived.Test.YtcbknemdidehlaaGreatDoorPx0
import Derived.Test.YtcbknemdidehlaaGreatDoorX
import Derived.Test.YtcbknemdidehlaaGreatDoorPx1
import Derived.Test.YtcbknemdidehlaaGreatDoorPx2
import Derived.Test.YtcbknemdidehlaaGreatDoorPx3
import Derived.Lib.Mul64
import Derived.Laws.Bits64
import Derived.Laws.Strings
import Derived.Test.YtcbknemdidehlaaGreatDoorY
import Derived.Test.YtcbknemdidehlaaGreatDoorPx4
namespace Go.Proofs.YtcbknemdidehlaaGreatDoor.E
open Go.RowKit Go.Proofs.YtcbknemdidehlaaGreatDoorW.PrintWords
set_option linter.unusedVariables false
set_option linter.unusedSimpArgs false
theorem pos {α : Type} {c : Prop} [Decidable c] {g f : Nat → Option α} {r : α} (h : c) (k : Ev g r) : Ev (fun n => if c then g n else f n) r := Ev.congr (fun _ => if_pos h) k
theorem neg {α : Type} {c : Prop} [Decidable c] {g f : Nat → Option α} {r : α} (h : ¬ c) (k : Ev f r) : Ev (fun n => if c then g n else f n) r := Ev.congr (fun _ => if_neg h) k
theorem ite {α : Type} {c : Prop} [Decidable c] {g f : Nat → Option α} {r : α} (h : c → Ev g r) (k : ¬ c → Ev f r) : Ev (fun n => if c then g n else f n) r := by
 by_cases e : c
 ·exact pos e (h e)
 ·exact neg e (k e)
theorem now {α : Type} {r r' : α} (h : r = r') : Ev (fun _ => some r) r' := h ▸ Ev.now r
theorem bindn {α β : Type} {o : Option α} {f : Nat → α → Option β} {a : α} {r : β} (h : o = some a) (k : Ev (fun n => f n a) r) : Ev (fun n => o.bind (f n)) r := by
 subst h; exact k
theorem is {α : Type} {g : Nat → Option α} {r r' : α} (h : Ev g r) (e : r = r') : Ev g r' := e ▸ h
theorem uniq {α : Type} {g : Nat → Option α} {r r' : α} (h : Ev g r) (h' : Ev g r') : r = r' := by
 obtain ⟨K, hK⟩ := h; obtain ⟨K', hK'⟩ := h'
 have a := hK (max K K') (Nat.le_max_left _ _); have b := hK' (max K K') (Nat.le_max_right _ _)
 exact Option.some.inj (a.symm.trans b)
theorem succ {α : Type} {g : Nat → Option α} {r : α} (k : Ev (fun n => g (n + 1)) r) : Ev g r := Ev.step (fun _ => rfl) k
theorem w64 {x : Int} (h : -9223372036854775808 ≤ x) (k : x ≤ 9223372036854775807) : wrap64 x = x := by
 unfold wrap64
 omega
end Go.Proofs.YtcbknemdidehlaaGreatDoor.E
namespace Go.Proofs.YtcbknemdidehlaaGreatDoor.Nm
open Go.RowKit Go.Proofs.YtcbknemdidehlaaGreatDoor.P Go.Proofs.YtcbknemdidehlaaGreatDoorW.PrintWords Go.Proofs.YtcbknemdidehlaaGreatDoorW.PrintLast
set_option linter.unusedVariables false
set_option linter.unusedSimpArgs false
abbrev good (n : Int) : Prop := -100000000000 ≤ n ∧ n ≤ 100000000000
theorem Good_is (n : Int) : num_Good.f n = some (decide (good n)) := by
 unfold num_Good.f good
 split <;> simp <;> omega
def out (n : Int) : Int × Bool := if good n then (n, true) else (0, false)
theorem told_is (n : Int) : num_told.f n = some (out n) := by
 unfold num_told.f out
 rw [Good_is]
 by_cases c : good n <;> simp [c]
theorem msb_ofInt {x : Int} (h : -9223372036854775808 ≤ x) (k : x ≤ 9223372036854775807) : (BitVec.ofInt 64 x).msb = decide (x < 0) := by
 rw [BitVec.msb_eq_toInt, BitVec.toInt_ofInt]
 congr 1
 rw [Int.bmod_eq_of_le (by omega) (by omega)]
theorem xor_neg {x y : Int} (h : -9223372036854775808 ≤ x) (k : x ≤ 9223372036854775807) (h' : -9223372036854775808 ≤ y) (k' : y ≤ 9223372036854775807) :
  (Go.bits .xor .i64 x y < 0) ↔ ((decide (x < 0)) != (decide (y < 0))) = true := by
 have e : Go.bits .xor .i64 x y = (BitVec.ofInt 64 x ^^^ BitVec.ofInt 64 y).toInt := by
  show IntKind.i64.wrap ((BitVec.ofInt 64 x ^^^ BitVec.ofInt 64 y).toNat : Int) = _
  have := (BitVec.ofInt 64 x ^^^ BitVec.ofInt 64 y).isLt
  rw [BitVec.toInt_eq_toNat_bmod]
  simp [IntKind.wrap, IntKind.bits, IntKind.signed, Int.bmod]
  omega
 rw [e, ← msb_ofInt h k, ← msb_ofInt h' k', show ((BitVec.ofInt 64 x).msb != (BitVec.ofInt 64 y).msb) = (BitVec.ofInt 64 x ^^^ BitVec.ofInt 64 y).msb from by rw [BitVec.msb_xor], BitVec.msb_eq_toInt]
 simp
def flr (a b : Int) : Int := if 0 < b then a / b else (-a) / (-b)
theorem tq {a b : Int} (hb : b ≠ 0) : ∃ q r : Int, Int.tdiv a b = q ∧ Int.tmod a b = r ∧ a = b * q + r ∧ (0 ≤ a → 0 ≤ r) ∧ (a ≤ 0 → r ≤ 0) ∧ (0 < b → r < b ∧ -b < r) ∧ (b < 0 → r < -b ∧ b < r) := by
 refine ⟨_, _, rfl, rfl, (Int.mul_tdiv_add_tmod a b).symm, fun h => Int.tmod_nonneg b h, fun h => ?_, fun h => ⟨Int.tmod_lt_of_pos a h, ?_⟩, fun h => ⟨?_, ?_⟩⟩
 ·have := Int.tmod_nonneg b (show 0 ≤ -a by omega)
  rw [Int.neg_tmod] at this; omega
 ·have := Int.tmod_lt_of_pos (-a) h
  rw [Int.neg_tmod] at this; omega
 ·have := Int.tmod_lt_of_pos a (show 0 < -b by omega)
  rw [Int.tmod_neg] at this; omega
 ·have := Int.tmod_lt_of_pos (-a) (show 0 < -b by omega)
  rw [Int.tmod_neg, Int.neg_tmod] at this; omega
theorem flr_bd {a b : Int} (hb : b ≠ 0) : ∃ r : Int, a = b * flr a b + r ∧ (0 < b → 0 ≤ r ∧ r < b) ∧ (b < 0 → r ≤ 0 ∧ b < r) := by
 unfold flr
 by_cases h : 0 < b
 ·rw [if_pos h]
  exact ⟨a % b, (Int.mul_ediv_add_emod a b).symm, fun _ => ⟨Int.emod_nonneg _ hb, Int.emod_lt_of_pos _ h⟩, fun _ => by omega⟩
 ·rw [if_neg h]
  have e := Int.mul_ediv_add_emod (-a) (-b)
  have l := Int.emod_nonneg (-a) (show -b ≠ 0 by omega)
  have u := Int.emod_lt_of_pos (-a) (show 0 < -b by omega)
  refine ⟨-((-a) % (-b)), ?_, fun _ => by omega, fun _ => by omega⟩
  rw [Int.neg_mul] at e
  omega
theorem uq {b q q' r r' : Int} (h : b * q + r = b * q' + r') (s : (0 < b ∧ 0 ≤ r ∧ r < b ∧ 0 ≤ r' ∧ r' < b) ∨ (b < 0 ∧ r ≤ 0 ∧ b < r ∧ r' ≤ 0 ∧ b < r')) : q = q' ∧ r = r' := by
 have e : b * (q - q') = r' - r := by rw [Int.mul_sub]; omega
 have : q - q' = 0 := by
  rcases s with s | s
  ·by_cases c : q - q' = 0
   ·exact c
   ·exfalso
    by_cases c' : 0 < q - q'
    ·have := Int.mul_le_mul_of_nonneg_left (show 1 ≤ q - q' by omega) (show 0 ≤ b by omega)
     omega
    ·have := Int.mul_le_mul_of_nonneg_left (show q - q' ≤ -1 by omega) (show 0 ≤ b by omega)
     omega
  ·by_cases c : q - q' = 0
   ·exact c
   ·exfalso
    by_cases c' : 0 < q - q'
    ·have := Int.mul_le_mul_of_nonneg_left (show 1 ≤ q - q' by omega) (show 0 ≤ -b by omega)
     simp only [Int.neg_mul] at this
     omega
    ·have := Int.mul_le_mul_of_nonneg_left (show q - q' ≤ -1 by omega) (show 0 ≤ -b by omega)
     simp only [Int.neg_mul] at this
     omega
 have hq : q = q' := by omega
 subst hq
 exact ⟨rfl, by omega⟩
theorem abs_q {a b q r : Int} (hb : b ≠ 0) (e : a = b * q + r) (s1 : 0 ≤ a → 0 ≤ r) (s2 : a ≤ 0 → r ≤ 0) (p : 0 < b → r < b ∧ -b < r) (n : b < 0 → r < -b ∧ b < r) (g : good a) : -100000000000 ≤ q ∧ q ≤ 100000000000 := by
 unfold good at g
 have key : ∀ t x : Int, 0 < t → (t * x ≤ 100000000000 → x ≤ 100000000000) ∧ (-100000000000 ≤ t * x → -100000000000 ≤ x) ∧ (-t < t * x → 0 ≤ x) ∧ (t * x < t → x ≤ 0) := fun t x ht => by
  refine ⟨fun h => ?_, fun h => ?_, fun h => ?_, fun h => ?_⟩
  ·by_cases c : 0 ≤ x
   ·have := Int.mul_le_mul_of_nonneg_right (show 1 ≤ t by omega) c; omega
   ·omega
  ·by_cases c : 0 ≤ -x
   ·have := Int.mul_le_mul_of_nonneg_right (show 1 ≤ t by omega) c; simp only [Int.mul_neg] at this; omega
   ·omega
  ·by_cases c : 0 ≤ x
   ·exact c
   ·have := Int.mul_le_mul_of_nonneg_left (show x ≤ -1 by omega) (show 0 ≤ t by omega); omega
  ·by_cases c : x ≤ 0
   ·exact c
   ·have := Int.mul_le_mul_of_nonneg_left (show 1 ≤ x by omega) (show 0 ≤ t by omega); omega
 by_cases h : 0 < b
 ·obtain ⟨k1, k2, k3, k4⟩ := key b q h
  have := p h
  by_cases z : 0 ≤ a
  ·have := s1 z; exact ⟨by have := k3 (by omega); omega, k1 (by omega)⟩
  ·have := s2 (by omega); exact ⟨k2 (by omega), by have := k4 (by omega); omega⟩
 ·obtain ⟨k1, k2, k3, k4⟩ := key (-b) (-q) (by omega)
  rw [Int.neg_mul_neg] at k1 k2 k3 k4
  have := n (by omega)
  by_cases z : 0 ≤ a
  ·have := s1 z; have := k1 (by omega); have := k3 (by omega); omega
  ·have := s2 (by omega); have := k2 (by omega); have := k4 (by omega); omega
theorem flr_of {a b q r : Int} (hb : b ≠ 0) (e : a = b * q + r) (s : (0 < b ∧ 0 ≤ r ∧ r < b) ∨ (b < 0 ∧ r ≤ 0 ∧ b < r)) : flr a b = q := by
 obtain ⟨r', e', p, n⟩ := flr_bd (a := a) hb
 refine (uq (b := b) (r := r') (r' := r) (by omega) ?_).1
 rcases s with s | s
 ·have := p s.1; omega
 ·have := n s.1; omega
theorem floor_is {a b : Int} (hb : b ≠ 0) (ga : good a) (gb : -9223372036854775807 ≤ b ∧ b ≤ 9223372036854775807) : num_floor.f a b = some (flr a b) ∧ octavoref05_floor.f a b = some (flr a b) := by
 obtain ⟨q, r, hq, hr, e, s1, s2, p, n⟩ := tq (a := a) hb
 have bd := abs_q hb e s1 s2 p n ga
 unfold good at ga
 unfold num_floor.f octavoref05_floor.f
 rw [hq, hr, if_neg hb, if_neg hb]
 by_cases c : r = 0
 ·rw [if_pos c, if_pos c, E.w64 (by omega) (by omega), flr_of hb e (by subst c; omega)]
  exact ⟨rfl, rfl⟩
 ·rw [if_neg c, if_neg c]
  have hr1 : -9223372036854775808 ≤ r ∧ r ≤ 9223372036854775807 := by
   by_cases h : 0 < b
   ·have := p h; omega
   ·have := n (by omega); omega
  have hx := xor_neg hr1.1 hr1.2 (show -9223372036854775808 ≤ b by omega) gb.2
  have sg : decide (a < 0) = decide (r < 0) := by
   by_cases z : a < 0
   ·have := s2 (by omega); simp [z]; omega
   ·have := s1 (by omega); simp [z]; omega
  rw [sg]
  by_cases z : ((decide (r < 0)) != (decide (b < 0))) = true
  ·rw [if_pos (hx.2 z), if_pos z, E.w64 (x := q) (by omega) (by omega), E.w64 (by omega) (by omega)]
   have z' : (r < 0 ∧ 0 < b) ∨ (0 < r ∧ b < 0) := by
    by_cases z1 : r < 0 <;> by_cases z2 : b < 0 <;> simp [z1, z2] at z <;> omega
   have e2 : a = b * (q - 1) + (r + b) := by rw [Int.mul_sub]; omega
   rw [flr_of hb e2 (z'.elim (fun z' => by have := p z'.2; omega) (fun z' => by have := n z'.2; omega))]
   exact ⟨rfl, rfl⟩
  ·rw [if_neg (fun h => z (hx.1 h)), if_neg z, E.w64 (x := q) (by omega) (by omega)]
   have z' : (0 ≤ r ∧ 0 < b) ∨ (r ≤ 0 ∧ b < 0) := by
    by_cases z1 : r < 0 <;> by_cases z2 : b < 0 <;> simp [z1, z2] at z <;> omega
   rw [flr_of hb e (z'.elim (fun z' => by have := p z'.2; omega) (fun z' => by have := n z'.2; omega))]
   exact ⟨rfl, rfl⟩
end Go.Proofs.YtcbknemdidehlaaGreatDoor.Nm
namespace Go.Proofs.YtcbknemdidehlaaGreatDoor.Nm
open Go.RowKit Go.Proofs.YtcbknemdidehlaaGreatDoor.P Go.Proofs.YtcbknemdidehlaaGreatDoorW.PrintWords Go.Proofs.YtcbknemdidehlaaGreatDoorW.PrintLast
set_option linter.unusedVariables false
set_option linter.unusedSimpArgs false
theorem tens (j : Nat) (h : j ≤ 12) : (1 : Int) ≤ ((10 ^ j : Nat) : Int) ∧ ((10 ^ j : Nat) : Int) ≤ 1000000000000 := by
 have a := Nat.pow_le_pow_right (show 0 < 10 by omega) h
 have b := Nat.pow_pos (n := j) (show 0 < 10 by omega)
 have : (10 ^ 12 : Nat) = 1000000000000 := by decide
 omega
theorem tens_succ (j : Nat) : ((10 ^ (j + 1) : Nat) : Int) = ((10 ^ j : Nat) : Int) * 10 := by
 rw [Nat.pow_succ]; omega
def upw (n u r how : Int) : Bool := if how = 0 then decide (2 * r > u ∨ (2 * r = u ∧ n > 0)) else if how = 1 then decide (n > 0) else if how = 2 then decide (n < 0) else decide (how = 3)
def rndu (n u how : Int) : Int × Bool :=
 if n % u = 0 then (n, true) else out (n - n % u + if upw n u (n % u) how = true then u else 0)
def rnd (n d how : Int) : Int × Bool :=
 if good n ∧ -8 ≤ d ∧ d ≤ 4 ∧ 0 ≤ how ∧ how ≤ 4 then rndu n ((10 ^ (4 - d).toNat : Nat) : Int) how else (0, false)
theorem flr_pos {a b : Int} (h : 0 < b) : flr a b = a / b := if_pos h
theorem at_rest {n u : Int} (hu : 0 < u) : n = u * (n / u) + n % u ∧ 0 ≤ n % u ∧ n % u < u :=
 ⟨(Int.mul_ediv_add_emod n u).symm, Int.emod_nonneg _ (by omega), Int.emod_lt_of_pos _ hu⟩
theorem told_pair {o : Option (Int × Bool)} {v : Int × Bool} (h : o = some v) : (o.bind fun t => some (t.1, t.2)) = some v := by subst h; rfl
theorem Round_end {n how u : Int} (t : Int) (g : good n) (h0 : 0 ≤ how) (h4 : how ≤ 4) (u1 : 1 ≤ u) (u2 : u ≤ 1000000000000) : Ev (fun k => num_Round.l0 k n how u t t) (rndu n u how) := by
 unfold good at g
 obtain ⟨e, r0, r1⟩ := at_rest (n := n) (show 0 < u by omega)
 have fl := (floor_is (a := n) (b := u) (by omega) g (by omega)).1
 rw [flr_pos (by omega)] at fl
 have e2 : n / u * u = n - n % u := by rw [Int.mul_comm]; omega
 refine E.succ (E.neg (by omega) (E.bindn fl ?_))
 simp only [e2]
 unfold rndu
 generalize n % u = r at *
 rw [E.w64 (x := n - r) (by omega) (by omega), show n - (n - r) = r by omega, E.w64 (x := r) (by omega) (by omega), E.w64 (x := 2 * r) (by omega) (by omega), E.w64 (x := n - r) (by omega) (by omega), E.w64 (x := n - r + u) (by omega) (by omega)]
 refine E.ite (fun c => by rw [if_pos c]; exact Ev.now _) (fun c => ?_)
 rw [if_neg c]
 have fin : ∀ b : Bool, b = upw n u r how → Ev (fun _ : Nat => if b = true then ((num_told.f (n - r + u)).bind fun t => some (t.1, t.2)) else ((num_told.f (n - r)).bind fun t => some (t.1, t.2))) (out (n - r + if upw n u r how = true then u else 0)) := by
  intro b hb
  subst hb
  by_cases z : upw n u r how = true
  ·rw [show (n - r + if upw n u r how = true then u else 0) = n - r + u by rw [if_pos z]]; exact E.pos z (Ev.congr (fun _ => told_pair (told_is _)) (Ev.now _))
  ·rw [show (n - r + if upw n u r how = true then u else 0) = n - r by rw [if_neg z]; omega]; exact E.neg z (Ev.congr (fun _ => told_pair (told_is _)) (Ev.now _))
 have hs : how = 0 ∨ how = 1 ∨ how = 2 ∨ how = 3 ∨ how = 4 := by omega
 refine E.ite (fun c1 => E.pos h0 (E.pos (by omega) (fin _ ?_))) (fun c1 => E.ite (fun c2 => E.pos h0 (E.pos (by omega) (fin _ ?_))) (fun c2 => E.pos h0 (E.pos (by omega) (fin _ ?_))))
 ·rcases hs with rfl | rfl | rfl | rfl | rfl <;> simp [upw, rdOf, c1]
 ·rcases hs with rfl | rfl | rfl | rfl | rfl <;> simp [upw, rdOf, c1, c2]
 ·rcases hs with rfl | rfl | rfl | rfl | rfl <;> simp [upw, rdOf, c1, c2]
theorem Round_l {n how : Int} {r : Int × Bool} (t : Nat) (ht : t ≤ 12) (h : Ev (fun k => num_Round.l0 k n how ((10 ^ t : Nat) : Int) t t) r) : ∀ m j : Nat, j + m = t → Ev (fun k => num_Round.l0 k n how ((10 ^ j : Nat) : Int) t j) r := by
 intro m
 induction m with
 | zero => intro j e; rw [show j = t by omega]; exact h
 | succ m ih =>
  intro j e
  have b := tens j (by omega)
  refine E.succ (E.pos (by omega) ?_)
  rw [← tens_succ, E.w64 (x := (j : Int) + 1) (by omega) (by omega), E.w64 (by rw [tens_succ]; omega) (by rw [tens_succ]; omega)]
  exact ih (j + 1) (by omega)
theorem Round_is (n d how : Int) (hd : -9223372036854775808 ≤ d ∧ d ≤ 9223372036854775807) : Ev (fun k => num_Round.f k n d how) (rnd n d how) := by
 have no : Ev (fun k => num_Round.j0 k n d how true) (0, false) := by
  refine E.succ ?_
  simp only [num_Round.j0]
  exact E.pos trivial (Ev.now _)
 refine E.bindn (Good_is n) ?_
 unfold rnd
 by_cases c : good n ∧ -8 ≤ d ∧ d ≤ 4 ∧ 0 ≤ how ∧ how ≤ 4
 ·obtain ⟨g, c1, c2, c3, c4⟩ := c
  rw [if_pos ⟨g, c1, c2, c3, c4⟩]
  refine E.pos (decide_eq_true g) (E.neg (by omega) (E.neg (by omega) (E.neg (by omega) (E.succ (E.neg (by simp; omega) ?_)))))
  rw [E.w64 (x := 4 - d) (by omega) (by omega)]
  obtain ⟨t, ht⟩ : ∃ t : Nat, 4 - d = t := ⟨(4 - d).toNat, by omega⟩
  rw [ht]
  have := tens t (by omega)
  exact Round_l t (by omega) (Round_end t g c3 c4 this.1 this.2) t 0 (by omega)
 ·rw [if_neg c]
  refine E.ite (fun a => E.ite (fun _ => no) (fun b => E.ite (fun _ => no) (fun b2 => E.ite (fun _ => no) (fun b3 => ?_)))) (fun _ => no)
  exact E.succ (E.pos (by simp only [decide_eq_true_eq] at a ⊢; omega) (Ev.now _))
end Go.Proofs.YtcbknemdidehlaaGreatDoor.Nm
namespace Go.Proofs.YtcbknemdidehlaaGreatDoor.Nm
open Go.RowKit Go.Proofs.YtcbknemdidehlaaGreatDoor.P Go.Proofs.YtcbknemdidehlaaGreatDoorW.PrintWords Go.Proofs.YtcbknemdidehlaaGreatDoorW.PrintLast
set_option linter.unusedVariables false
set_option linter.unusedSimpArgs false
theorem wu {x : Int} (h : 0 ≤ x) (k : x ≤ 18446744073709551615) : IntKind.u64.wrap x = x := by rw [IntKind.wrap_u64]; omega
end Go.Proofs.YtcbknemdidehlaaGreatDoor.Nm
namespace Go.Proofs.YtcbknemdidehlaaGreatDoor.Nm
open Go.RowKit Go.Proofs.YtcbknemdidehlaaGreatDoor.P Go.Proofs.YtcbknemdidehlaaGreatDoorW.PrintWords Go.Proofs.YtcbknemdidehlaaGreatDoorW.PrintLast
set_option linter.unusedVariables false
set_option linter.unusedSimpArgs false
def ab (n : Int) : Int := if n < 0 then -n else n
theorem ab_bd {n : Int} (g : good n) : 0 ≤ ab n ∧ ab n ≤ 100000000000 := by unfold good at g; unfold ab; split <;> omega
theorem size_is {n : Int} (h : -9223372036854775808 ≤ n) (k : n ≤ 9223372036854775807) : num_size.f n = some (ab n) := by
 unfold num_size.f ab
 by_cases c : n < 0
 ·rw [if_pos c, if_pos c]
  simp only [IntKind.wrap_u64, Option.some.injEq]
  omega
 ·rw [if_neg c, if_neg c]
  simp only [IntKind.wrap_u64, Option.some.injEq]
  omega
def sgn (u a b : Int) : Int × Bool := if u > 100000000000 then (0, false) else if ((decide (a < 0)) != (decide (b < 0))) = true then (-u, true) else (u, true)
def mul (a b : Int) : Int × Bool := if good a ∧ good b then sgn ((ab a * ab b + 5000) / 10000) a b else (0, false)
end Go.Proofs.YtcbknemdidehlaaGreatDoor.Nm
namespace Go.Proofs.YtcbknemdidehlaaGreatDoor.Nm
open Go.RowKit Go.Proofs.YtcbknemdidehlaaGreatDoor.P Go.Proofs.YtcbknemdidehlaaGreatDoorW.PrintWords Go.Proofs.YtcbknemdidehlaaGreatDoorW.PrintLast
set_option linter.unusedVariables false
set_option linter.unusedSimpArgs false
theorem out_yes' {n : Int} (g : good n) : out n = (n, true) := if_pos g
def pw (a : Int) : Nat → Int → Int × Bool
 | 0, p => (p, true)
 | n + 1, p => if (mul p a).2 = true then pw a n (mul p a).1 else (0, false)
end Go.Proofs.YtcbknemdidehlaaGreatDoor.Nm
namespace Go.Proofs.YtcbknemdidehlaaGreatDoor.Nm
open Go.RowKit Go.Proofs.YtcbknemdidehlaaGreatDoor.P Go.Proofs.YtcbknemdidehlaaGreatDoorW.PrintWords Go.Proofs.YtcbknemdidehlaaGreatDoorW.PrintLast
set_option linter.unusedVariables false
set_option linter.unusedSimpArgs false
theorem son_append (x y : List Int) : strOfNums x ++ strOfNums y = strOfNums (x ++ y) := by
 apply ByteArray.ext
 simp [strOfNums, ByteArray.data_append]
theorem son_size (x : List Int) : (strOfNums x).size = x.length := by simp [strOfNums, ByteArray.size]
def dig : Nat → Int → List Int → List Int
 | 0, u, L => (48 + u % 10) :: L
 | m + 1, u, L => if u / 10 = 0 then (48 + u % 10) :: L else dig m (u / 10) ((48 + u % 10) :: L)
theorem ten_succ (m : Nat) : (10 : Int) ^ (m + 1) = 10 * 10 ^ m := by rw [Int.pow_succ, Int.mul_comm]
theorem dig_len : ∀ (m : Nat) (u : Int) (L : List Int), L.length + 1 ≤ (dig m u L).length ∧ (dig m u L).length ≤ L.length + m + 1 := by
 intro m
 induction m with
 | zero => intro u L; simp [dig]
 | succ m ih =>
  intro u L
  unfold dig
  split
  ·simp
  ·have := ih (u / 10) ((48 + u % 10) :: L)
   simp only [List.length_cons] at this
   omega
theorem dec_l : ∀ (m : Nat) (u : Int) (L : List Int), 0 ≤ u → u < 10 ^ (m + 1) → L.length + m < 20 → Ev (fun k => num_decimal.l0 k L u) (strOfNums (dig m u L)) := by
 intro m
 induction m with
 | zero =>
  intro u L h k hl
  exact E.succ (E.pos (by omega) (E.pos (by omega) (Ev.now _)))
 | succ m ih =>
  intro u L h k hl
  rw [ten_succ] at k
  refine E.succ (E.pos (by omega) ?_)
  unfold dig
  refine E.ite (fun c => by rw [if_pos c]; exact Ev.now _) (fun c => ?_)
  rw [if_neg c]
  exact ih (u / 10) _ (by omega) (by omega) (by simp only [List.length_cons]; omega)
theorem dec_is {m : Nat} {u : Int} (h : 0 ≤ u) (k : u < 10 ^ (m + 1)) (hm : m < 20) (b : u ≤ 18446744073709551615) : Ev (fun k => num_decimal.f k u) (strOfNums (dig m u [])) :=
 E.pos h (E.pos b (dec_l m u [] h k (by simpa using hm)))
theorem rdig_l : ∀ (m : Nat) (u : Int) (L : List Int), 0 ≤ u → u < 10 ^ (m + 1) → u ≤ 18446744073709551615 → L.length + m < 100 → Ev (fun k => octavoref05_Digits.l0 k u (strOfNums L)) (strOfNums (dig m u L)) := by
 have one : ∀ (u : Int) (L : List Int) (r : ByteArray), 0 ≤ u → u ≤ 18446744073709551615 → L.length < 100 → (if u / 10 = 0 then r = strOfNums ((48 + u % 10) :: L) else Ev (fun k => octavoref05_Digits.l0 k (u / 10) (strOfNums ((48 + u % 10) :: L))) r) → Ev (fun k => octavoref05_Digits.l0 k u (strOfNums L)) r := by
  intro u L r h b hl g
  refine E.succ ?_
  simp only [octavoref05_Digits.l0, Option.bind_some]
  rw [show Int.tmod u 10 = u % 10 from Int.tmod_eq_emod_of_nonneg h, show Int.tdiv u 10 = u / 10 from Int.tdiv_eq_ediv_of_nonneg h, wu (x := 48 + u % 10) (by omega) (by omega), wu (x := u / 10) (by omega) (by omega), son_append, show (48 + u % 10) % 256 = 48 + u % 10 by omega]
  refine E.pos (by rw [son_size, son_size]; simp; omega) ?_
  by_cases c : u / 10 = 0
  ·rw [if_pos c] at g; exact E.pos c (E.now g.symm)
  ·rw [if_neg c] at g; exact E.neg c g
 intro m
 induction m with
 | zero =>
  intro u L h k b hl
  exact one u L _ h b (by omega) (by rw [if_pos (by omega)]; rfl)
 | succ m ih =>
  intro u L h k b hl
  rw [ten_succ] at k
  refine one u L _ h b (by omega) ?_
  unfold dig
  by_cases c : u / 10 = 0
  ·rw [if_pos c, if_pos c]
  ·rw [if_neg c, if_neg c]
   exact ih (u / 10) _ (by omega) (by omega) (by omega) (by simp only [List.length_cons]; omega)
theorem rdig_is {m : Nat} {u : Int} (h : 0 ≤ u) (k : u < 10 ^ (m + 1)) (hm : m < 100) (b : u ≤ 18446744073709551615) : Ev (fun k => octavoref05_Digits.f k u) (strOfNums (dig m u [])) :=
 rdig_l m u [] h k b (by simpa using hm)
theorem nil_iff (x : ByteArray) : x.toList = ([] : List UInt8) ↔ x.size = 0 := by
 rw [ByteArray.toList_eq, ← List.length_eq_zero_iff, Array.length_toList]
 rfl
theorem bt_extract (s : ByteArray) (a b : Nat) (i : Int) (h : b ≤ s.size) (h0 : 0 ≤ i) (hi : a + i < b) : bt (s.extract a b) i = bt s (a + i) := by
 have h1 : i.toNat < (s.extract a b).size := by rw [ByteArray.size_extract]; omega
 have h2 : ((a : Int) + i).toNat < s.size := by omega
 unfold bt
 rw [dif_pos h1, dif_pos h2]
 congr 2
 rw [ByteArray.getElem_extract]
 congr 1
 omega
def dot (x y : ByteArray) : ByteArray := if y.size = 0 then x else x ++ ((⟨#[46]⟩ : ByteArray) ++ y)
theorem trim_l : ∀ (n : Nat) (x : ByteArray), x.size = n → n ≤ 100 → ∃ y : ByteArray, Ev (fun k => strings_trimRightByte.l0 k x 48) y ∧ y.size ≤ x.size ∧
  (∀ z : ByteArray, z.size ≤ 100 → Ev (fun k => octavoref05_Print.l0 k z x) (dot z y)) ∧ (y.size = 0 ↔ ∀ i : Int, 0 ≤ i → i < n → bt x i = 48) := by
 intro n
 induction n with
 | zero =>
  intro x hx hn
  refine ⟨x, E.succ (E.neg (by omega) (Ev.now _)), Nat.le_refl _, fun z hz => ?_, by simp [hx]; intro i a b; omega⟩
  unfold dot
  rw [if_pos hx]
  exact E.succ (E.neg (by omega) (E.pos ((nil_iff x).2 hx) (Ev.now _)))
 | succ n ih =>
  intro x hx hn
  have w : wrap64 ((x.size : Int) - 1) = n := by rw [E.w64 (by omega) (by omega)]; omega
  by_cases c : bt x n = 48
  ·have sz : (x.extract 0 n).size = n := by rw [ByteArray.size_extract]; omega
   obtain ⟨y, y1, y2, y3, y4⟩ := ih (x.extract 0 n) sz (by omega)
   refine ⟨y, ?_, by omega, fun z hz => ?_, ?_⟩
   ·refine E.succ (E.pos (by omega) ?_)
    rw [w]
    refine E.pos (by omega) (E.pos (by omega) (E.pos c (E.pos (by omega) ?_)))
    rw [show ((n : Int)).toNat = n by omega]
    exact y1
   ·refine E.succ (E.pos (by omega) ?_)
    rw [w]
    refine E.pos (by omega) (E.pos (by omega) (E.pos c (E.pos (by omega) ?_)))
    rw [show ((n : Int)).toNat = n by omega]
    exact y3 z hz
   ·rw [y4]
    refine ⟨fun h i a b => ?_, fun h i a b => ?_⟩
    ·by_cases e : i = n
     ·rw [e]; exact c
     ·have := h i a (by omega)
      rw [bt_extract x 0 n i (by omega) a (by omega), show ((0 : Nat) : Int) + i = i by omega] at this
      exact this
    ·rw [bt_extract x 0 n i (by omega) a (by omega), show ((0 : Nat) : Int) + i = i by omega]
     exact h i a (by omega)
  ·refine ⟨x, ?_, Nat.le_refl _, fun z hz => ?_, ⟨fun h => by omega, fun h => absurd (h n (by omega) (by omega)) c⟩⟩
   ·refine E.succ (E.pos (by omega) ?_)
    rw [w]
    exact E.pos (by omega) (E.pos (by omega) (E.neg c (Ev.now _)))
   ·unfold dot
    rw [if_neg (by omega)]
    refine E.succ (E.pos (by omega) ?_)
    rw [w]
    refine E.pos (by omega) (E.pos (by omega) (E.neg c (E.neg (fun h => by have := (nil_iff x).1 h; omega) ?_)))
    have s1 : ((⟨#[46]⟩ : ByteArray) ++ x).size = 1 + x.size := by rw [ByteArray.size_append]; rfl
    exact E.pos (by omega) (E.pos (by rw [s1]; omega) (Ev.now _))
theorem trim_is {x y : ByteArray} (h : x.size ≠ 0) (t : Ev (fun k => strings_trimRightByte.l0 k x 48) y) : Ev (fun k => strings_TrimRight.f k x (⟨#[48]⟩ : ByteArray)) y := by
 refine E.neg (fun e => h ((nil_iff x).1 e)) ?_
 have e0 : ((⟨#[48]⟩ : ByteArray).toList == ([] : List UInt8)) = false := by decide +kernel
 have e1 : bt (⟨#[48]⟩ : ByteArray) 0 = 48 := by decide +kernel
 rw [e0]
 refine E.succ ?_
 simp only [strings_TrimRight.j0, e1]
 refine E.neg (by simp) (E.pos (by decide) (E.pos (by decide) (E.succ ?_)))
 simp only [strings_TrimRight.j1, e1]
 refine E.pos (by decide) (E.pos (by decide) (Ev.bind (a := y) ?_ (Ev.now _)))
 exact t
theorem dig4 {r : Int} (h : 0 ≤ r) (k : r < 10000) : dig 4 (r + 10000) [] = [49, 48 + r / 1000, 48 + r / 100 % 10, 48 + r / 10 % 10, 48 + r % 10] := by
 simp only [dig]
 rw [if_neg (by omega), if_neg (by omega), if_neg (by omega), if_neg (by omega)]
 simp only [List.cons.injEq, and_true]
 omega
theorem rest4 {r : Int} (h : 0 ≤ r) (k : r < 10000) : (strOfNums (dig 4 (r + 10000) [])).extract 1 (strOfNums (dig 4 (r + 10000) [])).size = strOfNums [48 + r / 1000, 48 + r / 100 % 10, 48 + r / 10 % 10, 48 + r % 10] := by
 rw [dig4 h k]
 rw [son_size]
 apply ByteArray.ext
 simp [strOfNums]
theorem bt_son (L : List Int) (i : Nat) (h : i < L.length) (hb : 0 ≤ L[i] ∧ L[i] ≤ 255) : bt (strOfNums L) (i : Int) = L[i] := by
 have h1 : i < (strOfNums L).size := by rw [son_size]; exact h
 have e : (strOfNums L)[i]'h1 = UInt8.ofNat (L[i].toNat) := by
  show (strOfNums L).data[i]'h1 = _
  simp [strOfNums]
 rw [← bt_at (strOfNums L) (i : Int) h1]
 show (((strOfNums L)[i]'h1).toNat : Int) = _
 rw [e, UInt8.toNat_ofNat']
 omega
theorem rest_bt {r : Int} (h : 0 ≤ r) (k : r < 10000) : (∀ i : Int, 0 ≤ i → i < 4 → bt (strOfNums [48 + r / 1000, 48 + r / 100 % 10, 48 + r / 10 % 10, 48 + r % 10]) i = 48) ↔ r = 0 := by
 have b0 : bt (strOfNums [48 + r / 1000, 48 + r / 100 % 10, 48 + r / 10 % 10, 48 + r % 10]) 0 = 48 + r / 1000 := bt_son _ 0 (by simp) (by simp; omega)
 have b1 : bt (strOfNums [48 + r / 1000, 48 + r / 100 % 10, 48 + r / 10 % 10, 48 + r % 10]) 1 = 48 + r / 100 % 10 := bt_son _ 1 (by simp) (by simp; omega)
 have b2 : bt (strOfNums [48 + r / 1000, 48 + r / 100 % 10, 48 + r / 10 % 10, 48 + r % 10]) 2 = 48 + r / 10 % 10 := bt_son _ 2 (by simp) (by simp; omega)
 have b3 : bt (strOfNums [48 + r / 1000, 48 + r / 100 % 10, 48 + r / 10 % 10, 48 + r % 10]) 3 = 48 + r % 10 := bt_son _ 3 (by simp) (by simp; omega)
 constructor
 ·intro a
  have c0 := a 0 (by omega) (by omega)
  have c1 := a 1 (by omega) (by omega)
  have c2 := a 2 (by omega) (by omega)
  have c3 := a 3 (by omega) (by omega)
  omega
 ·intro e i i0 i4
  rcases (show i = 0 ∨ i = 1 ∨ i = 2 ∨ i = 3 by omega) with rfl | rfl | rfl | rfl <;> omega
theorem Print_is (n : Int) (h : -9223372036854775808 ≤ n) (k : n ≤ 9223372036854775807) : ∃ s : ByteArray, Ev (fun j => num_Print.f j n) s ∧ Ev (fun j => octavoref05_Print.f j n) s ∧
  ∃ y : ByteArray, (∃ x : ByteArray, x = strOfNums [48 + ab n % 10000 / 1000, 48 + ab n % 10000 / 100 % 10, 48 + ab n % 10000 / 10 % 10, 48 + ab n % 10000 % 10] ∧ Ev (fun k => strings_trimRightByte.l0 k x 48) y) ∧ s = dot (strOfNums ((if n < 0 then [45] else []) ++ dig 15 (ab n / 10000) [])) y := by
 have ba : 0 ≤ ab n ∧ ab n ≤ 9223372036854775808 := by unfold ab; split <;> omega
 have p16 : (10 : Int) ^ (15 + 1) = 10000000000000000 := by decide
 have p5 : (10 : Int) ^ (4 + 1) = 100000 := by decide
 have td : Int.tdiv (ab n) 10000 = ab n / 10000 := Int.tdiv_eq_ediv_of_nonneg ba.1
 have tm : Int.tmod (ab n) 10000 = ab n % 10000 := Int.tmod_eq_emod_of_nonneg ba.1
 obtain ⟨y, y1, y2, y3, y4⟩ := trim_l 4 (strOfNums [48 + ab n % 10000 / 1000, 48 + ab n % 10000 / 100 % 10, 48 + ab n % 10000 / 10 % 10, 48 + ab n % 10000 % 10]) (by rw [son_size]; rfl) (by omega)
 have y4 := Iff.trans y4 (rest_bt (r := ab n % 10000) (by omega) (by omega))
 rw [son_size] at y2
 have y2' : y.size ≤ 4 := y2
 have re := rest4 (r := ab n % 10000) (by omega) (by omega)
 have d1 := dec_is (m := 15) (u := ab n / 10000) (by omega) (by rw [p16]; omega) (by omega) (by omega)
 have d2 := dec_is (m := 4) (u := ab n % 10000 + 10000) (by omega) (by rw [p5]; omega) (by omega) (by omega)
 have e1 := rdig_is (m := 15) (u := ab n / 10000) (by omega) (by rw [p16]; omega) (by omega) (by omega)
 have e2 := rdig_is (m := 4) (u := ab n % 10000 + 10000) (by omega) (by rw [p5]; omega) (by omega) (by omega)
 have sl := dig_len 15 (ab n / 10000) []
 simp only [List.length_nil] at sl
 have s5 : (strOfNums (dig 4 (ab n % 10000 + 10000) [])).size = 5 := by rw [dig4 (by omega) (by omega), son_size]; rfl
 refine ⟨_, ?_, ?_, y, ⟨_, rfl, y1⟩, rfl⟩
 ·refine E.bindn (size_is h k) ?_
  rw [td, tm, wu (x := ab n / 10000) (by omega) (by omega), wu (x := ab n % 10000 + 10000) (by omega) (by omega)]
  refine Ev.bind d1 (E.ite (fun c => ?_) (fun c => ?_))
  ·have ny : ¬ y.size = 0 := fun e => by have := y4.1 e; omega
   refine Ev.bind d2 (E.pos (by omega) ?_)
   rw [re]
   have q1 : ((⟨#[46]⟩ : ByteArray) ++ y).size = 1 + y.size := by rw [ByteArray.size_append]; rfl
   refine Ev.bind (trim_is (by rw [son_size]; simp) y1) (E.pos (by omega) (E.pos (by rw [son_size, q1]; omega) ?_))
   unfold dot
   rw [if_neg ny]
   have q2 : (strOfNums (dig 15 (ab n / 10000) []) ++ ((⟨#[46]⟩ : ByteArray) ++ y)).size = (dig 15 (ab n / 10000) []).length + (1 + y.size) := by rw [ByteArray.size_append, son_size, q1]
   refine E.ite (fun z => E.pos (by rw [q2]; omega) (E.now ?_)) (fun z => E.now ?_)
   ·rw [if_pos z, ← son_append, ByteArray.append_assoc]; rfl
   ·rw [if_neg z]; rfl
  ·have ny : y.size = 0 := y4.2 (by omega)
   unfold dot
   rw [if_pos ny]
   refine E.ite (fun z => E.pos (by rw [son_size]; omega) (E.now ?_)) (fun z => E.now ?_)
   ·rw [if_pos z, ← son_append]; rfl
   ·rw [if_neg z]; rfl
 ·have j0 : ∀ (L : List Int), L.length ≤ 1 → Ev (fun j => octavoref05_Print.j0 j (strOfNums L) (ab n)) (dot (strOfNums (L ++ dig 15 (ab n / 10000) [])) y) := fun L hL => by
   refine E.succ ?_
   simp only [octavoref05_Print.j0]
   rw [td, tm, wu (x := ab n / 10000) (by omega) (by omega), wu (x := ab n % 10000 + 10000) (by omega) (by omega)]
   refine Ev.bind e1 (E.pos (by rw [son_size, son_size]; omega) (Ev.bind e2 (E.pos (by omega) ?_)))
   rw [re, son_append]
   exact y3 _ (by rw [son_size, List.length_append]; omega)
  refine E.ite (fun z => ?_) (fun z => ?_)
  ·rw [if_pos z, show IntKind.u64.wrap (IntKind.u64.wrap (wrap64 (-wrap64 (n + 1))) + 1) = ab n by
    rw [E.w64 (x := n + 1) (by omega) (by omega), E.w64 (x := -(n + 1)) (by omega) (by omega), wu (x := -(n + 1)) (by omega) (by omega), wu (by omega) (by omega)]
    unfold ab; rw [if_pos z]; omega]
   exact j0 [45] (by simp)
  ·rw [if_neg z, show IntKind.u64.wrap n = ab n by rw [wu (by omega) (by omega)]; unfold ab; rw [if_neg z]]
   exact j0 [] (by simp)
end Go.Proofs.YtcbknemdidehlaaGreatDoor.Nm
namespace Go.Proofs.YtcbknemdidehlaaGreatDoor.Nm
open Go.RowKit Go.Proofs.YtcbknemdidehlaaGreatDoor.P Go.Proofs.YtcbknemdidehlaaGreatDoorW.PrintWords Go.Proofs.YtcbknemdidehlaaGreatDoorW.PrintLast
set_option linter.unusedVariables false
set_option linter.unusedSimpArgs false
def dgs : List UInt8 → Bool
 | [] => true
 | c :: l => decide (48 ≤ (c.toNat : Int) ∧ (c.toNat : Int) ≤ 57) && dgs l
def val : List UInt8 → Int → Int
 | [], n => n
 | c :: l, n => val l (10 * n + ((c.toNat : Int) - 48))
theorem val_append : ∀ (a b : List UInt8) (n : Int), val (a ++ b) n = val b (val a n) := by
 intro a
 induction a with
 | nil => intro b n; rfl
 | cons c a ih => intro b n; exact ih b _
theorem dgs_append : ∀ (a b : List UInt8), dgs (a ++ b) = (dgs a && dgs b) := by
 intro a
 induction a with
 | nil => intro b; rfl
 | cons c a ih => intro b; simp only [List.cons_append, dgs, ih, Bool.and_assoc]
theorem pow_pos' (j : Nat) : (1 : Int) ≤ 10 ^ j := by
 have := Nat.pow_pos (n := j) (show 0 < 10 by omega)
 have e : ((10 ^ j : Nat) : Int) = (10 : Int) ^ j := by simp
 omega
theorem pow_le' {i j : Nat} (h : i ≤ j) : (10 : Int) ^ i ≤ 10 ^ j := by
 have := Nat.pow_le_pow_right (show 0 < 10 by omega) h
 have e : ((10 ^ j : Nat) : Int) = (10 : Int) ^ j := by simp
 have e' : ((10 ^ i : Nat) : Int) = (10 : Int) ^ i := by simp
 omega
theorem val_bd : ∀ (l : List UInt8) (n : Int) (j : Nat), dgs l = true → 0 ≤ n → n < 10 ^ j → 0 ≤ val l n ∧ val l n < 10 ^ (j + l.length) := by
 intro l
 induction l with
 | nil => intro n j _ h k; exact ⟨h, k⟩
 | cons c l ih =>
  intro n j d h k
  simp only [dgs, Bool.and_eq_true, decide_eq_true_eq] at d
  have := ih (10 * n + ((c.toNat : Int) - 48)) (j + 1) d.2 (by omega) (by rw [Int.pow_succ]; omega)
  rw [show j + 1 + l.length = j + (c :: l).length by simp only [List.length_cons]; omega] at this
  exact this
theorem p15 : (10 : Int) ^ 15 = 1000000000000000 := by decide
theorem cntf_is : ∀ (l : List UInt8) (n : Int) (j : Nat), 0 ≤ n → n < 10 ^ j → j + l.length ≤ 15 → dgs l = true → X.cntf l n = some (val l n) := by
 intro l
 induction l with
 | nil => intro n j _ _ _ _; rfl
 | cons c l ih =>
  intro n j h k hl d
  simp only [dgs, Bool.and_eq_true, decide_eq_true_eq] at d
  simp only [List.length_cons] at hl
  have b : 10 * n + ((c.toNat : Int) - 48) < 10 ^ (j + 1) := by rw [Int.pow_succ]; omega
  have b2 := pow_le' (show j + 1 ≤ 15 by omega)
  rw [p15] at b2
  show (if (c.toNat : Int) < 48 ∨ (c.toNat : Int) > 57 then none else X.cntf l _) = _
  rw [if_neg (by omega), if_neg (by omega)]
  exact ih _ (j + 1) (by omega) b (by omega) d.2
theorem cntf_no : ∀ (l : List UInt8) (n : Int), dgs l = false → X.cntf l n = none := by
 intro l
 induction l with
 | nil => intro n h; cases h
 | cons c l ih =>
  intro n h
  show (if (c.toNat : Int) < 48 ∨ (c.toNat : Int) > 57 then none else X.cntf l _) = _
  by_cases z : (c.toNat : Int) < 48 ∨ (c.toNat : Int) > 57
  ·rw [if_pos z]
  ·rw [if_neg z]
   apply ih
   simp only [dgs] at h
   rw [decide_eq_true (show 48 ≤ (c.toNat : Int) ∧ (c.toNat : Int) ≤ 57 by omega), Bool.true_and] at h
   exact h
theorem cntf_some : ∀ (l : List UInt8) (n : Int), dgs l = true → ∃ m, X.cntf l n = some m := by
 intro l
 induction l with
 | nil => intro n _; exact ⟨n, rfl⟩
 | cons c l ih =>
  intro n h
  simp only [dgs, Bool.and_eq_true, decide_eq_true_eq] at h
  show ∃ m, (if (c.toNat : Int) < 48 ∨ (c.toNat : Int) > 57 then none else X.cntf l _) = some m
  rw [if_neg (by omega)]
  exact ih _ h.2
def okd (s : ByteArray) (a b : Int) : Bool := dgs s.data.toList && (decide (a ≤ (s.size : Int)) && decide ((s.size : Int) ≤ b))
theorem sz (s : ByteArray) : s.data.toList.length = s.size := by rw [Array.length_toList]; rfl
theorem count_ok {s : ByteArray} {a b : Int} (hb : b ≤ 15) (h : okd s a b = true) : num_count.f s a b = some (val s.data.toList 0, true) := by
 unfold okd at h
 simp only [Bool.and_eq_true, decide_eq_true_eq] at h
 unfold num_count.f
 rw [cntf_is s.data.toList 0 0 (by omega) (by decide) (by rw [sz]; omega) h.1]
 simp only
 rw [decide_eq_true h.2.1, decide_eq_true h.2.2]
 rfl
theorem count_no {s : ByteArray} {a b : Int} (h : okd s a b = false) : ∃ n, num_count.f s a b = some (n, false) := by
 unfold num_count.f
 cases d : dgs s.data.toList with
 | false => rw [cntf_no _ _ d]; exact ⟨0, rfl⟩
 | true =>
  obtain ⟨m, hm⟩ := cntf_some _ 0 d
  rw [hm]
  unfold okd at h
  rw [d, Bool.true_and] at h
  exact ⟨m, by simp only [h]⟩
theorem bt_get {s : ByteArray} {i : Nat} (h : i < s.size) : bt s (i : Int) = ((s[i]'h).toNat : Int) := (bt_at s i h).symm
def sg (neg : Bool) (n : Int) : Int × Bool := out (if neg = true then -n else n)
def fin (neg : Bool) (W R : ByteArray) (point : Bool) : Int × Bool :=
 if okd W 1 12 = true ∧ (point = true → okd R 1 4 = true) then sg neg (val W.data.toList 0 * 10000 + val R.data.toList 0 * 10 ^ (4 - R.size)) else (0, false)
theorem Parse_end {neg : Bool} {n m x : Int} (hn : 0 ≤ n) (kn : n < 1000000000000) : ∀ (r i : Nat), (i : Int) + r = x → x ≤ 4 → 0 ≤ m → m * 10 ^ r < 10000 → Ev (fun k => num_Parse.l0 k neg n m x i) (sg neg (n * 10000 + m * 10 ^ r)) := by
 intro r
 induction r generalizing m with
 | zero =>
  intro i e hx hm km
  rw [Int.pow_zero, Int.mul_one] at km ⊢
  refine E.succ (E.neg (by omega) ?_)
  rw [E.w64 (x := n * 10000) (by omega) (by omega), E.w64 (x := n * 10000 + m) (by omega) (by omega), E.w64 (x := -(n * 10000 + m)) (by omega) (by omega)]
  unfold sg
  refine E.ite (fun c => ?_) (fun c => ?_)
  ·rw [if_pos c, told_is]; exact Ev.now _
  ·rw [if_neg c, told_is]; exact Ev.now _
 | succ r ih =>
  intro i e hx hm km
  have pe : m * 10 ^ (r + 1) = m * 10 * 10 ^ r := by rw [Int.pow_succ, Int.mul_comm (10 ^ r) 10, Int.mul_assoc]
  rw [pe] at km ⊢
  have pp := pow_pos' r
  have mb : m * 10 ≤ m * 10 * 10 ^ r := by
   have := Int.mul_le_mul_of_nonneg_left pp (show 0 ≤ m * 10 by omega)
   omega
  refine E.succ (E.pos (by omega) ?_)
  rw [E.w64 (x := m * 10) (by omega) (by omega), E.w64 (x := (i : Int) + 1) (by omega) (by omega), show (i : Int) + 1 = ((i + 1 : Nat) : Int) by omega]
  exact ih (i + 1) (by omega) hx (by omega) km
end Go.Proofs.YtcbknemdidehlaaGreatDoor.Nm
namespace Go.Proofs.YtcbknemdidehlaaGreatDoor.Nm
open Go.RowKit Go.Proofs.YtcbknemdidehlaaGreatDoor.P Go.Proofs.YtcbknemdidehlaaGreatDoorW.PrintWords Go.Proofs.YtcbknemdidehlaaGreatDoorW.PrintLast
set_option linter.unusedVariables false
set_option linter.unusedSimpArgs false
theorem idx_bd : ∀ (l : List UInt8) (c : UInt8), Lib.indexByte l c = -1 ∨ (0 ≤ Lib.indexByte l c ∧ Lib.indexByte l c < l.length) := by
 intro l c
 induction l with
 | nil => exact .inl rfl
 | cons b l ih =>
  show (if b == c then (0 : Int) else if Lib.indexByte l c == -1 then -1 else Lib.indexByte l c + 1) = -1 ∨ (0 ≤ (if b == c then (0 : Int) else if Lib.indexByte l c == -1 then -1 else Lib.indexByte l c + 1) ∧ (if b == c then (0 : Int) else if Lib.indexByte l c == -1 then -1 else Lib.indexByte l c + 1) < ((b :: l).length : Int))
  simp only [List.length_cons, beq_iff_eq]
  by_cases h : b = c
  ·rw [if_pos h]; omega
  ·rw [if_neg h]
   by_cases h2 : Lib.indexByte l c = -1
   ·rw [if_pos h2]; exact .inl rfl
   ·rw [if_neg h2]; omega
theorem idx_cons (b c : UInt8) (l : List UInt8) : Lib.indexByte (b :: l) c = if b = c then 0 else if Lib.indexByte l c = -1 then -1 else Lib.indexByte l c + 1 := by
 show (if b == c then (0 : Int) else if Lib.indexByte l c == -1 then -1 else Lib.indexByte l c + 1) = _
 simp only [beq_iff_eq]
def ng (s : ByteArray) : Bool := decide (0 < s.size ∧ bt s 0 = 45)
def body (s : ByteArray) : ByteArray := if ng s = true then s.extract 1 s.size else s
def mid (t : ByteArray) : Int := Lib.indexByte t.data.toList 46
def prs (s : ByteArray) : Int × Bool :=
 if 0 ≤ mid (body s) then fin (ng s) ((body s).extract 0 (mid (body s)).toNat) ((body s).extract (mid (body s) + 1).toNat (body s).size) true else fin (ng s) (body s) (⟨#[]⟩ : ByteArray) false
theorem u8_eq {a : UInt8} {n : Nat} (hn : n < 256) : (a.toNat : Int) = n ↔ a = UInt8.ofNat n := by
 constructor
 ·intro h
  apply UInt8.toNat_inj.1
  rw [UInt8.toNat_ofNat']
  omega
 ·intro h
  rw [h, UInt8.toNat_ofNat']
  omega
theorem cutp_is {s : ByteArray} (hs : s.size ≤ 140737488351232) : strings_CutPrefix.f s (⟨#[45]⟩ : ByteArray) = some (body s, ng s) := by
 have s1 : ((⟨#[45]⟩ : ByteArray).size : Int) = 1 := rfl
 have l1 : (⟨#[45]⟩ : ByteArray).toList = [45] := by decide +kernel
 have hp : stringslite_HasPrefix.f s (⟨#[45]⟩ : ByteArray) = some (ng s) := by
  unfold stringslite_HasPrefix.f ng
  rw [s1, l1]
  by_cases c : (s.size : Int) ≥ 1
  ·rw [if_pos c, if_pos (by omega), if_pos c]
   have h0 : 0 < s.size := by omega
   have e : (s.extract 0 ((1 : Int)).toNat).toList = [s[0]'h0] := by
    rw [ByteArray.toList_eq, ByteArray.data_extract, Array.toList_extract, show ((1 : Int)).toNat = 1 from rfl]
    have := X.drop_get s 0 h0
    rw [List.drop_zero] at this
    rw [this]
    rfl
   have b0 : bt s 0 = ((s[0]'h0).toNat : Int) := bt_get (i := 0) h0
   rw [e, b0]
   congr 1
   by_cases z : s[0]'h0 = 45
   ·rw [z]; simp [h0]
   ·have : ¬ (((s[0]'h0).toNat : Int) = 45) := fun h => z ((u8_eq (n := 45) (by omega)).1 h)
    rw [decide_eq_false (fun h => this h.2)]
    simp [z]
  ·rw [if_neg c, decide_eq_false (by omega)]
 unfold strings_CutPrefix.f stringslite_CutPrefix.f
 rw [hp]
 simp only [Option.bind_some]
 unfold body
 by_cases c : ng s = true
 ·rw [if_pos c, if_pos c, s1, if_pos (by omega), if_pos (by have := of_decide_eq_true c; omega), c]
  rfl
 ·rw [if_neg c, if_neg c, show ng s = false by simpa using c]
  rfl
theorem body_size {s : ByteArray} (hs : s.size ≤ 140737488351232) : (body s).size ≤ 140737488351232 := by
 unfold body
 split
 ·rw [ByteArray.size_extract]; omega
 ·exact hs
theorem cut_is {t : ByteArray} (ht : t.size ≤ 140737488351232) : Ev (fun k => strings_Cut.f k t (⟨#[46]⟩ : ByteArray)) (if 0 ≤ mid t then (t.extract 0 (mid t).toNat, t.extract (mid t + 1).toNat t.size, true) else (t, (⟨#[]⟩ : ByteArray), false)) := by
 have s1 : ((⟨#[46]⟩ : ByteArray).size : Int) = 1 := rfl
 have l1 : (⟨#[46]⟩ : ByteArray).toList = [46] := by decide +kernel
 have b1 : bt (⟨#[46]⟩ : ByteArray) 0 = 46 := by decide +kernel
 have ix : Ev (fun k => stringslite_Index.f k t (⟨#[46]⟩ : ByteArray)) (mid t) := by
  refine E.neg (by rw [s1]; omega) ?_
  rw [s1, l1]
  cases h : (([46] : List UInt8) == t.toList) with
  | true =>
   refine E.succ ?_
   simp only [stringslite_Index.j0]
   refine E.pos trivial (E.now ?_)
   have : t.data.toList = [46] := by rw [← ByteArray.toList_eq]; exact (beq_iff_eq.1 h).symm
   unfold mid
   rw [this]
   rfl
  | false =>
   refine E.succ ?_
   simp only [stringslite_Index.j0, b1]
   exact E.neg (by simp) (E.pos trivial (E.pos (by rw [s1]; omega) (E.bindn (a := mid t) rfl (Ev.now _))))
 have lt := idx_bd t.data.toList 46
 rw [sz] at lt
 unfold strings_Cut.f stringslite_Cut.f
 refine Ev.bind (a := (if 0 ≤ mid t then (t.extract 0 (mid t).toNat, t.extract (mid t + 1).toNat t.size, true) else (t, (⟨#[]⟩ : ByteArray), false))) (Ev.bind ix ?_) (Ev.now _)
 rw [s1]
 have lt' : mid t = -1 ∨ (0 ≤ mid t ∧ mid t < t.size) := lt
 refine E.ite (fun c => ?_) (fun c => ?_)
 ·rw [E.w64 (x := mid t + 1) (by omega) (by omega)]
  refine E.is ?_ (if_pos c).symm
  exact E.pos c (E.pos (by omega) (E.pos (by omega) (E.pos (by omega) (Ev.now _))))
 ·refine E.is ?_ (if_neg c).symm
  exact Ev.now _
theorem okd_sz {s : ByteArray} {a b : Int} (h : okd s a b = true) : dgs s.data.toList = true ∧ a ≤ s.size ∧ (s.size : Int) ≤ b := by
 unfold okd at h
 simpa using h
theorem val0 {s : ByteArray} (d : dgs s.data.toList = true) : 0 ≤ val s.data.toList 0 ∧ val s.data.toList 0 < 10 ^ s.size := by
 have := val_bd s.data.toList 0 0 d (by omega) (by decide)
 rw [Nat.zero_add, sz] at this
 exact this
theorem Parse_tail {neg : Bool} {W R : ByteArray} {n : Int} (dW : dgs W.data.toList = true) (hW : W.size ≤ 12) (dR : dgs R.data.toList = true) (hR : R.size ≤ 4) (hn : n = val W.data.toList 0) : Ev (fun k => num_Parse.j0 k neg R n (val R.data.toList 0) false) (sg neg (n * 10000 + val R.data.toList 0 * 10 ^ (4 - R.size))) := by
 have vW := val0 dW
 have vR := val0 dR
 have p12 : (10 : Int) ^ 12 = 1000000000000 := by decide
 have pw := pow_le' hW
 rw [p12] at pw
 refine E.succ ?_
 simp only [num_Parse.j0]
 rw [E.w64 (x := 4 - (R.size : Int)) (by omega) (by omega)]
 refine E.neg (by simp) (Parse_end (by omega) (by omega) (4 - R.size) 0 (by omega) (by omega) vR.1 ?_)
 have e : (10 : Int) ^ R.size * 10 ^ (4 - R.size) = 10000 := by
  rw [← Int.pow_add, show R.size + (4 - R.size) = 4 by omega]; rfl
 have := Int.mul_lt_mul_of_pos_right vR.2 (show (0 : Int) < 10 ^ (4 - R.size) by have := pow_pos' (4 - R.size); omega)
 omega
theorem Parse_is {s : ByteArray} (hs : s.size ≤ 140737488351232) : Ev (fun k => num_Parse.f k s) (prs s) := by
 have no : ∀ (b : Bool) (R : ByteArray) (x y : Int), Ev (fun k => num_Parse.j0 k b R x y true) (0, false) := fun b R x y => by
  refine E.succ ?_
  simp only [num_Parse.j0]
  exact E.pos trivial (Ev.now _)
 have bs := body_size hs
 refine E.bindn (cutp_is hs) (Ev.bind (cut_is bs) ?_)
 unfold prs
 generalize body s = t at *
 generalize ng s = b
 have key : ∀ (W R : ByteArray) (point : Bool), (point = false → R = (⟨#[]⟩ : ByteArray)) → Ev (fun k => (num_count.f W 1 12).bind fun bt115 => (num_count.f R 1 4).bind fun bt117 => if bt115.2 = true then (if point = true then num_Parse.j0 k b R bt115.1 bt117.1 (!bt117.2) else num_Parse.j0 k b R bt115.1 bt117.1 false) else num_Parse.j0 k b R bt115.1 bt117.1 true) (fin b W R point) := by
  intro W R point hp
  unfold fin
  cases hW : okd W 1 12 with
  | false =>
   obtain ⟨n, e⟩ := count_no hW
   rw [if_neg (fun h => by cases h.1)]
   cases hR : okd R 1 4 with
   | false =>
    obtain ⟨m, e2⟩ := count_no hR
    exact E.bindn e (E.bindn e2 (E.neg (by simp) (no _ _ _ _)))
   | true => exact E.bindn e (E.bindn (count_ok (by omega) hR) (E.neg (by simp) (no _ _ _ _)))
  | true =>
   have zW := okd_sz hW
   refine E.bindn (count_ok (by omega) hW) ?_
   cases point with
   | false =>
    have hR := hp rfl
    subst hR
    rw [if_pos ⟨rfl, fun h => by cases h⟩]
    refine E.bindn (a := (0, false)) rfl (E.pos (by rfl) (E.neg (by simp) ?_))
    exact Parse_tail (R := (⟨#[]⟩ : ByteArray)) zW.1 (by omega) rfl (by decide) rfl
   | true =>
    cases hR : okd R 1 4 with
    | false =>
     obtain ⟨m, e2⟩ := count_no hR
     rw [if_neg (fun h => by have := h.2 rfl; cases this)]
     refine E.bindn e2 (E.pos (by rfl) (E.pos (by rfl) ?_))
     exact no _ _ _ _
    | true =>
     have zR := okd_sz hR
     rw [if_pos ⟨rfl, fun _ => rfl⟩]
     refine E.bindn (count_ok (by omega) hR) (E.pos (by rfl) (E.pos (by rfl) ?_))
     exact Parse_tail zW.1 (by omega) zR.1 (by omega) rfl
 by_cases c : 0 ≤ mid t
 ·rw [if_pos c, if_pos c]
  exact key _ _ true (fun h => by cases h)
 ·rw [if_neg c, if_neg c]
  exact key _ _ false (fun _ => rfl)
end Go.Proofs.YtcbknemdidehlaaGreatDoor.Nm
namespace Go.Proofs.YtcbknemdidehlaaGreatDoor.Pure
open Go.RowKit Go.Proofs.YtcbknemdidehlaaGreatDoor.P Go.Proofs.YtcbknemdidehlaaGreatDoor.Nm Go.Proofs.YtcbknemdidehlaaGreatDoorW.PrintWords Go.Proofs.YtcbknemdidehlaaGreatDoorW.PrintLast
set_option linter.unusedVariables false
set_option linter.unusedSimpArgs false
def by8 (L : List Int) : List UInt8 := L.map fun n => UInt8.ofNat n.toNat
theorem son_bytes (L : List Int) : (strOfNums L).data.toList = by8 L := rfl
def dgi (L : List Int) : Prop := ∀ x ∈ L, 48 ≤ x ∧ x ≤ 57
theorem u8n {x : Int} (h : 0 ≤ x) (k : x ≤ 255) : ((UInt8.ofNat x.toNat).toNat : Int) = x := by
 rw [UInt8.toNat_ofNat']; omega
theorem by_dgs : ∀ (L : List Int), dgi L → dgs (by8 L) = true := by
 intro L
 induction L with
 | nil => intro _; rfl
 | cons x L ih =>
  intro h
  have hx := h x (by simp)
  show (decide (48 ≤ ((UInt8.ofNat x.toNat).toNat : Int) ∧ ((UInt8.ofNat x.toNat).toNat : Int) ≤ 57) && dgs (by8 L)) = true
  rw [u8n (by omega) (by omega), decide_eq_true (by omega), ih (fun y hy => h y (by simp [hy]))]
  rfl
theorem dig_dgi : ∀ (m : Nat) (u : Int) (L : List Int), 0 ≤ u → dgi L → dgi (dig m u L) := by
 have one : ∀ (u : Int) (L : List Int), 0 ≤ u → dgi L → dgi ((48 + u % 10) :: L) := fun u L h d x hx => by
  rcases List.mem_cons.1 hx with e | e
  ·omega
  ·exact d x e
 intro m
 induction m with
 | zero => intro u L h d; exact one u L h d
 | succ m ih =>
  intro u L h d
  unfold dig
  split
  ·exact one u L h d
  ·exact ih _ _ (by omega) (one u L h d)
theorem dig_val : ∀ (m : Nat) (u : Int) (L : List Int), 0 ≤ u → u < 10 ^ (m + 1) → val (by8 (dig m u L)) 0 = val (by8 L) u := by
 have one : ∀ (u : Int) (L : List Int) (n : Int), 0 ≤ u → val (by8 ((48 + u % 10) :: L)) n = val (by8 L) (10 * n + u % 10) := fun u L n h => by
  show val (by8 L) (10 * n + (((UInt8.ofNat (48 + u % 10).toNat).toNat : Int) - 48)) = _
  rw [u8n (by omega) (by omega), show 48 + u % 10 - 48 = u % 10 by omega]
 intro m
 induction m with
 | zero =>
  intro u L h k
  show val (by8 ((48 + u % 10) :: L)) 0 = _
  rw [one u L 0 h, show 10 * 0 + u % 10 = u by omega]
 | succ m ih =>
  intro u L h k
  rw [ten_succ] at k
  unfold dig
  by_cases c : u / 10 = 0
  ·rw [if_pos c, one u L 0 h, show 10 * 0 + u % 10 = u by omega]
  ·rw [if_neg c, ih _ _ (by omega) (by omega), one u L _ h, show 10 * (u / 10) + u % 10 = u by omega]
theorem dig_len2 : ∀ (m j : Nat) (u : Int) (L : List Int), 0 ≤ u → u < 10 ^ (j + 1) → (dig m u L).length ≤ L.length + j + 1 := by
 intro m
 induction m with
 | zero => intro j u L h k; simp [dig]
 | succ m ih =>
  intro j u L h k
  unfold dig
  by_cases c : u / 10 = 0
  ·rw [if_pos c]; simp only [List.length_cons]; omega
  ·rw [if_neg c]
   cases j with
   | zero => exfalso; have : u < 10 := k; omega
   | succ j =>
    rw [ten_succ] at k
    have := ih j (u / 10) ((48 + u % 10) :: L) (by omega) (by omega)
    simp only [List.length_cons] at this
    omega
theorem idx_none : ∀ (L : List Int) (R : List UInt8), dgi L → Lib.indexByte (by8 L ++ R) 46 = if Lib.indexByte R 46 = -1 then -1 else Lib.indexByte R 46 + L.length := by
 intro L R
 induction L with
 | nil => intro _; show Lib.indexByte R 46 = if Lib.indexByte R 46 = -1 then -1 else Lib.indexByte R 46 + 0; split <;> omega
 | cons x L ih =>
  intro h
  have hx := h x (by simp)
  have i := ih (fun y hy => h y (by simp [hy]))
  show Lib.indexByte (UInt8.ofNat x.toNat :: (by8 L ++ R)) 46 = _
  rw [idx_cons, if_neg (fun e => by have := u8n (x := x) (by omega) (by omega); rw [e] at this; have e2 : ((46 : UInt8).toNat : Int) = 46 := rfl; omega), i]
  have ge := Lib.indexByte_ge R 46
  simp only [List.length_cons]
  by_cases z : Lib.indexByte R 46 = -1
  ·rw [if_pos z, if_pos z, if_pos rfl]
  ·rw [if_neg z, if_neg z, if_neg (by omega)]; omega
theorem trim_back : ∀ (n : Nat) (x y : ByteArray), x.size = n → n ≤ 100 → Ev (fun k => strings_trimRightByte.l0 k x 48) y → ∃ j : Nat, x.data.toList = y.data.toList ++ List.replicate j 48 := by
 intro n
 induction n with
 | zero =>
  intro x y hx hn t
  have := E.uniq t (E.succ (E.neg (by omega) (Ev.now x)))
  exact ⟨0, by rw [this]; simp⟩
 | succ n ih =>
  intro x y hx hn t
  have w : wrap64 ((x.size : Int) - 1) = n := by rw [E.w64 (by omega) (by omega)]; omega
  by_cases c : bt x n = 48
  ·have sz' : (x.extract 0 n).size = n := by rw [ByteArray.size_extract]; omega
   obtain ⟨y', y1, _⟩ := trim_l n (x.extract 0 n) sz' (by omega)
   have t2 : Ev (fun k => strings_trimRightByte.l0 k x 48) y' := by
    refine E.succ (E.pos (by omega) ?_)
    rw [w]
    refine E.pos (by omega) (E.pos (by omega) (E.pos c (E.pos (by omega) ?_)))
    rw [show ((n : Int)).toNat = n by omega]
    exact y1
   have e := E.uniq t t2
   subst e
   obtain ⟨j, hj⟩ := ih (x.extract 0 n) y sz' (by omega) y1
   refine ⟨j + 1, ?_⟩
   have hi : n < x.size := by omega
   have e1 : x.data.toList = (x.extract 0 n).data.toList ++ x.data.toList.drop n := by
    rw [ByteArray.data_extract, Array.toList_extract]
    simp
   have e2 : x.data.toList.drop n = [48] := by
    rw [X.drop_get x n hi, List.drop_eq_nil_of_le (by rw [sz]; omega), (u8_eq (n := 48) (by omega)).1 ((bt_get hi).symm.trans c)]
    rfl
   rw [e1, e2, hj, List.append_assoc, List.replicate_succ']
  ·have t2 : Ev (fun k => strings_trimRightByte.l0 k x 48) x := by
    refine E.succ (E.pos (by omega) ?_)
    rw [w]
    exact E.pos (by omega) (E.pos (by omega) (E.neg c (Ev.now _)))
   have e := E.uniq t t2
   exact ⟨0, by rw [e]; simp⟩
theorem val_rep : ∀ (j : Nat) (n : Int), val (List.replicate j 48) n = n * 10 ^ j := by
 intro j
 induction j with
 | zero => intro n; simp [val]
 | succ j ih =>
  intro n
  rw [List.replicate_succ]
  show val (List.replicate j 48) (10 * n + (((48 : UInt8).toNat : Int) - 48)) = _
  rw [ih, show ((48 : UInt8).toNat : Int) = 48 from rfl, show 10 * n + (48 - 48) = n * 10 by omega, Int.mul_assoc, ← Int.pow_succ']
theorem ext_drop (s : ByteArray) (a : Nat) : (s.extract a s.size).data.toList = s.data.toList.drop a := by
 rw [ByteArray.data_extract, Array.toList_extract]
 have : (s.data.toList.drop a).length ≤ s.size - a := by rw [List.length_drop, sz]; omega
 rw [show (List.extract s.data.toList a s.size) = (s.data.toList.drop a).take (s.size - a) from rfl, List.take_of_length_le this]
theorem ext_take (s : ByteArray) (b : Nat) : (s.extract 0 b).data.toList = s.data.toList.take b := by
 rw [ByteArray.data_extract, Array.toList_extract]
 rw [show (List.extract s.data.toList 0 b) = (s.data.toList.drop 0).take (b - 0) from rfl, List.drop_zero, Nat.sub_zero]
theorem head_bt {s : ByteArray} {c : UInt8} {l : List UInt8} (h : s.data.toList = c :: l) : 0 < s.size ∧ bt s 0 = (c.toNat : Int) := by
 have h0 : 0 < s.size := by rw [← sz, h]; simp
 have e := X.drop_get s 0 h0
 rw [List.drop_zero, h] at e
 have e1 := (List.cons.inj e).1
 refine ⟨h0, ?_⟩
 rw [e1]
 exact bt_get (i := 0) h0
theorem body_yes {s : ByteArray} {l : List UInt8} (h : s.data.toList = 45 :: l) : ng s = true ∧ (body s).data.toList = l := by
 obtain ⟨h0, hb⟩ := head_bt h
 have n : ng s = true := decide_eq_true ⟨h0, by rw [hb]; rfl⟩
 refine ⟨n, ?_⟩
 unfold body
 rw [if_pos n, ext_drop, h]
 rfl
theorem body_no {s : ByteArray} {c : UInt8} {l : List UInt8} (h : s.data.toList = c :: l) (hc : (c.toNat : Int) ≠ 45) : ng s = false ∧ body s = s := by
 obtain ⟨h0, hb⟩ := head_bt h
 have n : ng s = false := decide_eq_false (fun z => hc (hb.symm.trans z.2))
 refine ⟨n, ?_⟩
 unfold body
 rw [if_neg (by rw [n]; simp)]
theorem prs_of {s : ByteArray} {neg : Bool} {D : List Int} {T : List UInt8} {u r : Int} (hn : ng s = neg) (hb : (body s).data.toList = by8 D ++ (if T = [] then [] else 46 :: T)) (dD : dgi D) (l1 : 1 ≤ D.length) (l2 : D.length ≤ 12) (vD : val (by8 D) 0 = u)
  (dT : dgs T = true) (lT : T.length ≤ 4) (vT : val T 0 * 10 ^ (4 - T.length) = r) : prs s = sg neg (u * 10000 + r) := by
 have lD : (by8 D).length = D.length := by simp [by8]
 have hm : mid (body s) = if T = [] then -1 else (D.length : Int) := by
  unfold mid
  rw [hb, idx_none D _ dD]
  by_cases z : T = []
  ·rw [if_pos z, if_pos z, if_pos (show Lib.indexByte [] 46 = -1 from rfl)]
  ·rw [if_neg z, if_neg z, show Lib.indexByte (46 :: T) 46 = 0 by rw [idx_cons, if_pos rfl], if_neg (by omega)]; omega
 unfold prs
 rw [hn, hm]
 generalize body s = B at *
 by_cases z : T = []
 ·subst z
  rw [if_pos rfl] at hb ⊢
  rw [List.append_nil] at hb
  rw [if_neg (by omega)]
  have sB : B.size = D.length := by rw [← sz, hb, lD]
  unfold fin
  rw [if_pos ⟨by unfold okd; rw [hb, by_dgs D dD, sB, decide_eq_true (show (1 : Int) ≤ D.length by omega), decide_eq_true (show (D.length : Int) ≤ 12 by omega)]; rfl, fun h => by cases h⟩, hb, vD]
  congr 1
  rw [← vT]
  rfl
 ·rw [if_neg z] at hb ⊢
  rw [if_pos (by omega), show ((D.length : Nat) : Int).toNat = D.length by omega, show ((D.length : Int) + 1).toNat = D.length + 1 by omega]
  have eW : (B.extract 0 D.length).data.toList = by8 D := by rw [ext_take, hb, ← lD, List.take_left]
  have eR : (B.extract (D.length + 1) B.size).data.toList = T := by
   rw [ext_drop, hb, ← lD, ← List.drop_drop, List.drop_left]
   rfl
  have sW : (B.extract 0 D.length).size = D.length := by rw [← sz, eW, lD]
  have sR : (B.extract (D.length + 1) B.size).size = T.length := by rw [← sz, eR]
  have tl : 1 ≤ T.length := by cases T with | nil => exact absurd rfl z | cons _ _ => simp
  unfold fin
  rw [if_pos ⟨by unfold okd; rw [eW, by_dgs D dD, sW, decide_eq_true (show (1 : Int) ≤ D.length by omega), decide_eq_true (show (D.length : Int) ≤ 12 by omega)]; rfl, fun _ => by unfold okd; rw [eR, dT, sR, decide_eq_true (show (1 : Int) ≤ T.length by omega), decide_eq_true (show (T.length : Int) ≤ 4 by omega)]; rfl⟩, eW, eR, sR, vD, vT]
theorem back {n : Int} {s x y : ByteArray} (g : good n) (hx : x = strOfNums [48 + ab n % 10000 / 1000, 48 + ab n % 10000 / 100 % 10, 48 + ab n % 10000 / 10 % 10, 48 + ab n % 10000 % 10]) (ty : Ev (fun k => strings_trimRightByte.l0 k x 48) y)
  (hs : s = dot (strOfNums ((if n < 0 then [45] else []) ++ dig 15 (ab n / 10000) [])) y) : prs s = (n, true) := by
 have ba := ab_bd g
 have p8 : (10 : Int) ^ (7 + 1) = 100000000 := by decide
 have p16 : (10 : Int) ^ (15 + 1) = 10000000000000000 := by decide
 have dx : dgi [48 + ab n % 10000 / 1000, 48 + ab n % 10000 / 100 % 10, 48 + ab n % 10000 / 10 % 10, 48 + ab n % 10000 % 10] := fun z hz => by
  simp only [List.mem_cons, List.mem_nil_iff, or_false] at hz
  rcases hz with e | e | e | e <;> omega
 have lx : x.data.toList = by8 [48 + ab n % 10000 / 1000, 48 + ab n % 10000 / 100 % 10, 48 + ab n % 10000 / 10 % 10, 48 + ab n % 10000 % 10] := by rw [hx]; rfl
 have vx : val x.data.toList 0 = ab n % 10000 := by
  rw [lx]
  show val [] (10 * (10 * (10 * (10 * 0 + (((UInt8.ofNat (48 + ab n % 10000 / 1000).toNat).toNat : Int) - 48)) + (((UInt8.ofNat (48 + ab n % 10000 / 100 % 10).toNat).toNat : Int) - 48)) + (((UInt8.ofNat (48 + ab n % 10000 / 10 % 10).toNat).toNat : Int) - 48)) + (((UInt8.ofNat (48 + ab n % 10000 % 10).toNat).toNat : Int) - 48)) = _
  rw [u8n (by omega) (by omega), u8n (by omega) (by omega), u8n (by omega) (by omega), u8n (by omega) (by omega)]
  show 10 * (10 * (10 * (10 * 0 + _) + _) + _) + _ = _
  omega
 obtain ⟨j, hj⟩ := trim_back 4 x y (by rw [hx, son_size]; rfl) (by omega) ty
 have len : y.data.toList.length + j = 4 := by
  have := congrArg List.length hj
  rw [lx] at this
  simp [by8] at this
  simp
  omega
 have dy : dgs y.data.toList = true := by
  have := by_dgs _ dx
  rw [← lx, hj, dgs_append] at this
  cases h : dgs y.data.toList with
  | true => rfl
  | false => rw [h] at this; cases this
 have vy : val y.data.toList 0 * 10 ^ (4 - y.data.toList.length) = ab n % 10000 := by
  rw [← vx, hj, val_append, val_rep, show 4 - y.data.toList.length = j by omega]
 have dD := dig_dgi 15 (ab n / 10000) [] (by omega) (fun z hz => by cases hz)
 have lD := dig_len 15 (ab n / 10000) []
 have lD2 := dig_len2 15 7 (ab n / 10000) [] (by omega) (by rw [p8]; omega)
 have vD : val (by8 (dig 15 (ab n / 10000) [])) 0 = ab n / 10000 := dig_val 15 (ab n / 10000) [] (by omega) (by rw [p16]; omega)
 simp only [List.length_nil] at lD lD2
 have ls : s.data.toList = by8 (if n < 0 then [45] else []) ++ (by8 (dig 15 (ab n / 10000) []) ++ (if y.data.toList = [] then [] else 46 :: y.data.toList)) := by
  have b8 : by8 ((if n < 0 then [45] else []) ++ dig 15 (ab n / 10000) []) = by8 (if n < 0 then [45] else []) ++ by8 (dig 15 (ab n / 10000) []) := by simp [by8]
  rw [hs]
  unfold dot
  by_cases z : y.data.toList = []
  ·have : y.size = 0 := by rw [← sz, z]; rfl
   rw [if_pos this, if_pos z, son_bytes, b8, List.append_nil]
  ·have : ¬ y.size = 0 := fun e => z (List.length_eq_zero_iff.1 (by rw [sz]; exact e))
   rw [if_neg this, if_neg z, ByteArray.data_append, Array.toList_append, son_bytes, b8, ByteArray.data_append, Array.toList_append, List.append_assoc]
   rfl
 have e : prs s = sg (decide (n < 0)) (ab n / 10000 * 10000 + ab n % 10000) := by
  by_cases z : n < 0
  ·rw [if_pos z] at ls
   obtain ⟨h1, h2⟩ := body_yes (s := s) ls
   rw [decide_eq_true z]
   exact prs_of h1 h2 dD (by omega) (by omega) vD dy (by omega) vy
  ·rw [if_neg z] at ls
   have ls2 : s.data.toList = by8 (dig 15 (ab n / 10000) []) ++ (if y.data.toList = [] then [] else 46 :: y.data.toList) := ls
   rw [decide_eq_false z]
   cases hD : dig 15 (ab n / 10000) [] with
   | nil => rw [hD] at lD; simp at lD
   | cons d D =>
    have hd := dD d (by rw [hD]; simp)
    obtain ⟨h1, h2⟩ := body_no (s := s) (c := UInt8.ofNat d.toNat) (by rw [ls2, hD]; rfl) (by rw [u8n (by omega) (by omega)]; omega)
    exact prs_of h1 (by rw [h2]; exact ls2) dD (by omega) (by omega) vD dy (by omega) vy
 rw [e, show ab n / 10000 * 10000 + ab n % 10000 = ab n by omega]
 have gn := g
 unfold good at gn
 unfold sg
 by_cases z : n < 0
 ·have : ab n = -n := if_pos z
  rw [decide_eq_true z, if_pos rfl, this, show - -n = n by omega, out_yes' g]
 ·have : ab n = n := if_neg z
  rw [decide_eq_false z, this, show (if false = true then -n else n) = n from rfl, out_yes' g]
end Go.Proofs.YtcbknemdidehlaaGreatDoor.Pure
namespace Go.Proofs.YtcbknemdidehlaaGreatDoor.Vl
open Go.RowKit Go.Proofs.YtcbknemdidehlaaGreatDoor.P Go.Proofs.YtcbknemdidehlaaGreatDoor.Nm Go.Proofs.YtcbknemdidehlaaGreatDoorW.PrintWords Go.Proofs.YtcbknemdidehlaaGreatDoorW.PrintLast
set_option linter.unusedVariables false
set_option linter.unusedSimpArgs false
noncomputable def prt (n : Int) : ByteArray := if h : -9223372036854775808 ≤ n ∧ n ≤ 9223372036854775807 then Classical.choose (Print_is n h.1 h.2) else (⟨#[]⟩ : ByteArray)
theorem Prt_is {n : Int} (h : -9223372036854775808 ≤ n) (k : n ≤ 9223372036854775807) : Ev (fun j => num_Print.f j n) (prt n) ∧ Ev (fun j => octavoref05_Print.f j n) (prt n) ∧ (good n → prs (prt n) = (n, true)) := by
 have e : prt n = Classical.choose (Print_is n h k) := dif_pos ⟨h, k⟩
 obtain ⟨a, b, y, ⟨x, hx, ty⟩, hp⟩ := Classical.choose_spec (Print_is n h k)
 rw [← e] at a b hp
 exact ⟨a, b, fun g => Pure.back g hx ty hp⟩
theorem prt_sz {n : Int} (h : -9223372036854775808 ≤ n) (k : n ≤ 9223372036854775807) : (prt n).size ≤ 30 := by
 have e : prt n = Classical.choose (Print_is n h k) := dif_pos ⟨h, k⟩
 obtain ⟨a, b, y, ⟨x, hx, ty⟩, hp⟩ := Classical.choose_spec (Print_is n h k)
 rw [← e] at hp
 have p16 : (10 : Int) ^ (15 + 1) = 10000000000000000 := by decide
 obtain ⟨y', t1, t2, _⟩ := trim_l 4 x (by rw [hx, son_size]; rfl) (by omega)
 have ey := E.uniq ty t1
 subst ey
 have d := dig_len 15 (ab n / 10000) []
 have l1 : (if n < 0 then ([45] : List Int) else []).length ≤ 1 := by split <;> simp
 have l2 : (strOfNums ((if n < 0 then [45] else []) ++ dig 15 (ab n / 10000) [])).size ≤ 17 := by
  rw [son_size, List.length_append]
  simp only [List.length_nil] at d
  omega
 have l3 : x.size = 4 := by rw [hx, son_size]; rfl
 rw [hp]
 unfold dot
 split
 ·omega
 ·rw [ByteArray.size_append, ByteArray.size_append]
  have : (⟨#[46]⟩ : ByteArray).size = 1 := rfl
  omega
def up (s : ByteArray) : ByteArray := X.mapS X.gUpper s
def lo (s : ByteArray) : ByteArray := X.mapS X.gLower s
theorem Upper_is {s : ByteArray} (h : s.size ≤ 140737488351232) : value_Upper.f s = some (up s) := if_pos (by omega)
theorem Lower_is {s : ByteArray} (h : s.size ≤ 140737488351232) : value_Lower.f s = some (lo s) := if_pos (by omega)
def wrd (s : ByteArray) : Int := if (up s).toList = ([84, 82, 85, 69] : List UInt8) then 1 else if (up s).toList = ([70, 65, 76, 83, 69] : List UInt8) then 0 else -1
theorem word_is {s : ByteArray} (h : s.size ≤ 140737488351232) : value_word.f s = some (decide (wrd s = 1), decide (wrd s ≥ 0)) := by
 unfold value_word.f wrd
 rw [Upper_is h]
 simp only [Option.bind_some]
 split
 ·rfl
 ·split <;> rfl
def q (s : ByteArray) : Bool := decide (0 < s.size ∧ bt s 0 = 39)
def tnum (a b : Int) (s : ByteArray) : Int × Int :=
 if a = 0 then (0, 0) else if a = 1 then (b, 0) else if a = 3 then (if b = 0 then (0, 0) else (10000, 0)) else if a = 2 then (if (prs s).2 = true then ((prs s).1, 0) else (0, 2)) else if a = 4 then (0, b) else (0, 2)
noncomputable def txt (a b : Int) (s : ByteArray) : ByteArray :=
 if a = 1 then prt b else if a = 2 then s else if a = 3 then (if b = 0 then (⟨#[70, 65, 76, 83, 69]⟩ : ByteArray) else (⟨#[84, 82, 85, 69]⟩ : ByteArray)) else if a = 4 then (if 1 ≤ b then (if b ≤ 8 then rdOf ByteArray.empty X.errL b else (⟨#[]⟩ : ByteArray)) else (⟨#[]⟩ : ByteArray)) else (⟨#[]⟩ : ByteArray)
noncomputable def ttxt (a b : Int) (s : ByteArray) : ByteArray × Int := if a = 4 then ((⟨#[]⟩ : ByteArray), b) else (txt a b s, 0)
def tboo (a b : Int) (s : ByteArray) : Bool × Int :=
 if a = 0 then (false, 0) else if a = 1 then ((b != 0), 0) else if a = 2 then (if wrd s ≥ 0 then (decide (wrd s = 1), 0) else (false, 2)) else if a = 3 then ((b != 0), 0) else if a = 4 then (false, b) else (false, 2)
def gdv (a b : Int) (s : ByteArray) : Prop :=
 (a = 0 ∧ b = 0 ∧ s.size = 0) ∨ (a = 1 ∧ good b ∧ s.size = 0) ∨ (a = 2 ∧ b = 0 ∧ s.size ≤ 255) ∨ (a = 3 ∧ (b = 0 ∨ b = 1) ∧ s.size = 0) ∨ (a = 4 ∧ 1 ≤ b ∧ b ≤ 8 ∧ s.size = 0)
instance (a b : Int) (s : ByteArray) : Decidable (gdv a b s) := by unfold gdv good; infer_instance
end Go.Proofs.YtcbknemdidehlaaGreatDoor.Vl
namespace Go.Proofs.YtcbknemdidehlaaGreatDoor.Vl
open Go.RowKit Go.Proofs.YtcbknemdidehlaaGreatDoor.P Go.Proofs.YtcbknemdidehlaaGreatDoor.Nm Go.Proofs.YtcbknemdidehlaaGreatDoorW.PrintWords Go.Proofs.YtcbknemdidehlaaGreatDoorW.PrintLast
set_option linter.unusedVariables false
set_option linter.unusedSimpArgs false
theorem e0 : (⟨#[]⟩ : ByteArray).size ≤ 140737488351232 := by decide
def cp (x y : Int × Int × ByteArray) : Int :=
 if x.1 = y.1 then (if x.2.1 = y.2.1 then (if x.2.2.toList = y.2.2.toList then 0 else if Op.bytesLess x.2.2.toList y.2.2.toList = true then -1 else 1) else if x.2.1 < y.2.1 then -1 else 1) else if x.1 < y.1 then -1 else 1
end Go.Proofs.YtcbknemdidehlaaGreatDoor.Vl
namespace Go.Proofs.YtcbknemdidehlaaGreatDoor.Vl
open Go.RowKit Go.Proofs.YtcbknemdidehlaaGreatDoor.P Go.Proofs.YtcbknemdidehlaaGreatDoor.Nm Go.Proofs.YtcbknemdidehlaaGreatDoorW.PrintWords Go.Proofs.YtcbknemdidehlaaGreatDoorW.PrintLast
set_option linter.unusedVariables false
set_option linter.unusedSimpArgs false
def chs (s : ByteArray) : Nat → Nat → List ByteArray
 | 0, _ => []
 | m + 1, pos => if pos < s.size then s.extract pos (pos + (Utf8.decode s pos).2) :: chs s m (pos + (Utf8.decode s pos).2) else []
theorem Chars_l {s : ByteArray} (hs : s.size ≤ 8796093022207) : ∀ (m pos : Nat) (l : List ByteArray), s.size ≤ pos + m → l.length ≤ pos → Ev (fun k => value_Chars.l0 k s pos l) (l ++ chs s m pos) := by
 intro m
 induction m with
 | zero =>
  intro pos l h1 h2
  refine E.succ (E.neg (by omega) ?_)
  simp only [chs, List.append_nil]
  exact Ev.now _
 | succ m ih =>
  intro pos l h1 h2
  unfold chs
  by_cases c : pos < s.size
  ·rw [if_pos c]
   obtain ⟨d1, d2, _⟩ := X.dec_facts s pos c
   refine E.succ (E.pos c (E.pos (by omega) ?_))
   have := ih (pos + (Utf8.decode s pos).2) (l ++ [s.extract pos (pos + (Utf8.decode s pos).2)]) (by omega) (by simp; omega)
   rw [List.append_assoc] at this
   exact this
  ·rw [if_neg c, List.append_nil]
   exact E.succ (E.neg c (Ev.now _))
def chars (s : ByteArray) : List ByteArray := chs s s.size 0
theorem Chars_is {s : ByteArray} (hs : s.size ≤ 8796093022207) : Ev (fun k => value_Chars.f k s) (chars s) :=
 E.pos (by omega) (Chars_l hs s.size 0 [] (by omega) (by simp))
theorem chs_len (s : ByteArray) : ∀ (m pos : Nat), (chs s m pos).length ≤ m := by
 intro m
 induction m with
 | zero => intro pos; simp [chs]
 | succ m ih =>
  intro pos
  unfold chs
  split
  ·simp; exact ih _
  ·simp
end Go.Proofs.YtcbknemdidehlaaGreatDoor.Vl
namespace Go.Proofs.YtcbknemdidehlaaGreatDoor.Mt
open Go.RowKit Go.Proofs.YtcbknemdidehlaaGreatDoor.P Go.Proofs.YtcbknemdidehlaaGreatDoor.Nm Go.Proofs.YtcbknemdidehlaaGreatDoorW.PrintWords Go.Proofs.YtcbknemdidehlaaGreatDoorW.PrintLast
set_option linter.unusedVariables false
set_option linter.unusedSimpArgs false
theorem out_bd (n : Int) : -100000000000 ≤ (out n).1 ∧ (out n).1 ≤ 100000000000 := by
 unfold out
 split
 ·rename_i h; exact h
 ·simp
theorem rnd_bd (n d how : Int) : -100000000000 ≤ (rnd n d how).1 ∧ (rnd n d how).1 ≤ 100000000000 := by
 unfold rnd
 split
 ·rename_i h
  unfold rndu
  split
  ·exact h.1
  ·exact out_bd _
 ·simp
end Go.Proofs.YtcbknemdidehlaaGreatDoor.Mt
