/- What the functions come to, in plain words. -/
import Derived.Test.YtnpcmgajplikbaaGreatDoorPx0
import Derived.Test.YtnpcmgajplikbaaGreatDoorX
import Derived.Test.YtnpcmgajplikbaaGreatDoorPx1
import Derived.Test.YtnpcmgajplikbaaGreatDoorPx2
import Derived.Test.YtnpcmgajplikbaaGreatDoorPx3
import Derived.Lib.Mul64
import Derived.Laws.Bits64
import Derived.Laws.Strings
import Derived.Test.YtnpcmgajplikbaaGreatDoorY
/- Small words on rounds: what a printed function comes to, given rounds enough. -/
namespace Go.Proofs.YtnpcmgajplikbaaGreatDoor.E
open Go.RowKit Go.Proofs.YtnpcmgajplikbaaGreatDoorW.PrintWords
set_option linter.unusedVariables false
set_option linter.unusedSimpArgs false

theorem pos {α : Type} {c : Prop} [Decidable c] {g f : Nat → Option α} {r : α} (h : c) (k : Ev g r) : Ev (fun n => if c then g n else f n) r := Ev.congr (fun _ => if_pos h) k
theorem neg {α : Type} {c : Prop} [Decidable c] {g f : Nat → Option α} {r : α} (h : ¬ c) (k : Ev f r) : Ev (fun n => if c then g n else f n) r := Ev.congr (fun _ => if_neg h) k
theorem ite {α : Type} {c : Prop} [Decidable c] {g f : Nat → Option α} {r : α} (h : c → Ev g r) (k : ¬ c → Ev f r) : Ev (fun n => if c then g n else f n) r := by
  by_cases e : c
  · exact pos e (h e)
  · exact neg e (k e)
theorem now {α : Type} {r r' : α} (h : r = r') : Ev (fun _ => some r) r' := h ▸ Ev.now r
theorem bindn {α β : Type} {o : Option α} {f : Nat → α → Option β} {a : α} {r : β} (h : o = some a) (k : Ev (fun n => f n a) r) : Ev (fun n => o.bind (f n)) r := by
  subst h; exact k
theorem is {α : Type} {g : Nat → Option α} {r r' : α} (h : Ev g r) (e : r = r') : Ev g r' := e ▸ h
/-- what a function that runs at least once does: its text at one round less -/
theorem succ {α : Type} {g : Nat → Option α} {r : α} (k : Ev (fun n => g (n + 1)) r) : Ev g r := Ev.step (fun _ => rfl) k
theorem w64 {x : Int} (h : -9223372036854775808 ≤ x) (k : x ≤ 9223372036854775807) : wrap64 x = x := by
  unfold wrap64
  omega
end Go.Proofs.YtnpcmgajplikbaaGreatDoor.E

/- What the short functions on numbers come to: good ones, floors, rounding. -/
namespace Go.Proofs.YtnpcmgajplikbaaGreatDoor.Nm
open Go.RowKit Go.Proofs.YtnpcmgajplikbaaGreatDoor.P Go.Proofs.YtnpcmgajplikbaaGreatDoorW.PrintWords Go.Proofs.YtnpcmgajplikbaaGreatDoorW.PrintLast
set_option linter.unusedVariables false
set_option linter.unusedSimpArgs false

abbrev good (n : Int) : Prop := -100000000000 ≤ n ∧ n ≤ 100000000000
theorem Good_is (n : Int) : num_Good.f n = some (decide (good n)) := by
  unfold num_Good.f good
  split <;> simp <;> omega
/-- an answer, if it is good -/
def out (n : Int) : Int × Bool := if good n then (n, true) else (0, false)
theorem told_is (n : Int) : num_told.f n = some (out n) := by
  unfold num_told.f out
  rw [Good_is]
  by_cases c : good n <;> simp [c]
theorem msb_ofInt {x : Int} (h : -9223372036854775808 ≤ x) (k : x ≤ 9223372036854775807) : (BitVec.ofInt 64 x).msb = decide (x < 0) := by
  rw [BitVec.msb_eq_toInt, BitVec.toInt_ofInt]
  congr 1
  rw [Int.bmod_eq_of_le (by omega) (by omega)]
theorem xor_neg {x y : Int} (h : -9223372036854775808 ≤ x) (k : x ≤ 9223372036854775807) (h' : -9223372036854775808 ≤ y) (k' : y ≤ 9223372036854775807) :
    (Go.bits .xor .i64 x y < 0) ↔ ((decide (x < 0)) != (decide (y < 0))) = true := by
  have e : Go.bits .xor .i64 x y = (BitVec.ofInt 64 x ^^^ BitVec.ofInt 64 y).toInt := by
    show IntKind.i64.wrap ((BitVec.ofInt 64 x ^^^ BitVec.ofInt 64 y).toNat : Int) = _
    have := (BitVec.ofInt 64 x ^^^ BitVec.ofInt 64 y).isLt
    rw [BitVec.toInt_eq_toNat_bmod]
    simp [IntKind.wrap, IntKind.bits, IntKind.signed, Int.bmod]
    omega
  rw [e, ← msb_ofInt h k, ← msb_ofInt h' k', show ((BitVec.ofInt 64 x).msb != (BitVec.ofInt 64 y).msb) = (BitVec.ofInt 64 x ^^^ BitVec.ofInt 64 y).msb from by rw [BitVec.msb_xor], BitVec.msb_eq_toInt]
  simp

/-- the greatest whole number that is at most a / b -/
def flr (a b : Int) : Int := if 0 < b then a / b else (-a) / (-b)
theorem tq {a b : Int} (hb : b ≠ 0) : ∃ q r : Int, Int.tdiv a b = q ∧ Int.tmod a b = r ∧ a = b * q + r ∧ (0 ≤ a → 0 ≤ r) ∧ (a ≤ 0 → r ≤ 0) ∧ (0 < b → r < b ∧ -b < r) ∧ (b < 0 → r < -b ∧ b < r) := by
  refine ⟨_, _, rfl, rfl, (Int.mul_tdiv_add_tmod a b).symm, fun h => Int.tmod_nonneg b h, fun h => ?_, fun h => ⟨Int.tmod_lt_of_pos a h, ?_⟩, fun h => ⟨?_, ?_⟩⟩
  · have := Int.tmod_nonneg b (show 0 ≤ -a by omega)
    rw [Int.neg_tmod] at this; omega
  · have := Int.tmod_lt_of_pos (-a) h
    rw [Int.neg_tmod] at this; omega
  · have := Int.tmod_lt_of_pos a (show 0 < -b by omega)
    rw [Int.tmod_neg] at this; omega
  · have := Int.tmod_lt_of_pos (-a) (show 0 < -b by omega)
    rw [Int.tmod_neg, Int.neg_tmod] at this; omega
theorem flr_bd {a b : Int} (hb : b ≠ 0) : ∃ r : Int, a = b * flr a b + r ∧ (0 < b → 0 ≤ r ∧ r < b) ∧ (b < 0 → r ≤ 0 ∧ b < r) := by
  unfold flr
  by_cases h : 0 < b
  · rw [if_pos h]
    exact ⟨a % b, (Int.mul_ediv_add_emod a b).symm, fun _ => ⟨Int.emod_nonneg _ hb, Int.emod_lt_of_pos _ h⟩, fun _ => by omega⟩
  · rw [if_neg h]
    have e := Int.mul_ediv_add_emod (-a) (-b)
    have l := Int.emod_nonneg (-a) (show -b ≠ 0 by omega)
    have u := Int.emod_lt_of_pos (-a) (show 0 < -b by omega)
    refine ⟨-((-a) % (-b)), ?_, fun _ => by omega, fun _ => by omega⟩
    rw [Int.neg_mul] at e
    omega
theorem uq {b q q' r r' : Int} (h : b * q + r = b * q' + r') (s : (0 < b ∧ 0 ≤ r ∧ r < b ∧ 0 ≤ r' ∧ r' < b) ∨ (b < 0 ∧ r ≤ 0 ∧ b < r ∧ r' ≤ 0 ∧ b < r')) : q = q' ∧ r = r' := by
  have e : b * (q - q') = r' - r := by rw [Int.mul_sub]; omega
  have : q - q' = 0 := by
    rcases s with s | s
    · by_cases c : q - q' = 0
      · exact c
      · exfalso
        by_cases c' : 0 < q - q'
        · have := Int.mul_le_mul_of_nonneg_left (show 1 ≤ q - q' by omega) (show 0 ≤ b by omega)
          omega
        · have := Int.mul_le_mul_of_nonneg_left (show q - q' ≤ -1 by omega) (show 0 ≤ b by omega)
          omega
    · by_cases c : q - q' = 0
      · exact c
      · exfalso
        by_cases c' : 0 < q - q'
        · have := Int.mul_le_mul_of_nonneg_left (show 1 ≤ q - q' by omega) (show 0 ≤ -b by omega)
          simp only [Int.neg_mul] at this
          omega
        · have := Int.mul_le_mul_of_nonneg_left (show q - q' ≤ -1 by omega) (show 0 ≤ -b by omega)
          simp only [Int.neg_mul] at this
          omega
  have hq : q = q' := by omega
  subst hq
  exact ⟨rfl, by omega⟩
theorem abs_q {a b q r : Int} (hb : b ≠ 0) (e : a = b * q + r) (s1 : 0 ≤ a → 0 ≤ r) (s2 : a ≤ 0 → r ≤ 0) (p : 0 < b → r < b ∧ -b < r) (n : b < 0 → r < -b ∧ b < r) (g : good a) : -100000000000 ≤ q ∧ q ≤ 100000000000 := by
  unfold good at g
  have key : ∀ t x : Int, 0 < t → (t * x ≤ 100000000000 → x ≤ 100000000000) ∧ (-100000000000 ≤ t * x → -100000000000 ≤ x) ∧ (-t < t * x → 0 ≤ x) ∧ (t * x < t → x ≤ 0) := fun t x ht => by
    refine ⟨fun h => ?_, fun h => ?_, fun h => ?_, fun h => ?_⟩
    · by_cases c : 0 ≤ x
      · have := Int.mul_le_mul_of_nonneg_right (show 1 ≤ t by omega) c; omega
      · omega
    · by_cases c : 0 ≤ -x
      · have := Int.mul_le_mul_of_nonneg_right (show 1 ≤ t by omega) c; simp only [Int.mul_neg] at this; omega
      · omega
    · by_cases c : 0 ≤ x
      · exact c
      · have := Int.mul_le_mul_of_nonneg_left (show x ≤ -1 by omega) (show 0 ≤ t by omega); omega
    · by_cases c : x ≤ 0
      · exact c
      · have := Int.mul_le_mul_of_nonneg_left (show 1 ≤ x by omega) (show 0 ≤ t by omega); omega
  by_cases h : 0 < b
  · obtain ⟨k1, k2, k3, k4⟩ := key b q h
    have := p h
    by_cases z : 0 ≤ a
    · have := s1 z; exact ⟨by have := k3 (by omega); omega, k1 (by omega)⟩
    · have := s2 (by omega); exact ⟨k2 (by omega), by have := k4 (by omega); omega⟩
  · obtain ⟨k1, k2, k3, k4⟩ := key (-b) (-q) (by omega)
    rw [Int.neg_mul_neg] at k1 k2 k3 k4
    have := n (by omega)
    by_cases z : 0 ≤ a
    · have := s1 z; have := k1 (by omega); have := k3 (by omega); omega
    · have := s2 (by omega); have := k2 (by omega); have := k4 (by omega); omega
theorem flr_of {a b q r : Int} (hb : b ≠ 0) (e : a = b * q + r) (s : (0 < b ∧ 0 ≤ r ∧ r < b) ∨ (b < 0 ∧ r ≤ 0 ∧ b < r)) : flr a b = q := by
  obtain ⟨r', e', p, n⟩ := flr_bd (a := a) hb
  refine (uq (b := b) (r := r') (r' := r) (by omega) ?_).1
  rcases s with s | s
  · have := p s.1; omega
  · have := n s.1; omega
theorem floor_is {a b : Int} (hb : b ≠ 0) (ga : good a) (gb : -9223372036854775807 ≤ b ∧ b ≤ 9223372036854775807) : num_floor.f a b = some (flr a b) ∧ octavoref05_floor.f a b = some (flr a b) := by
  obtain ⟨q, r, hq, hr, e, s1, s2, p, n⟩ := tq (a := a) hb
  have bd := abs_q hb e s1 s2 p n ga
  unfold good at ga
  unfold num_floor.f octavoref05_floor.f
  rw [hq, hr, if_neg hb, if_neg hb]
  by_cases c : r = 0
  · rw [if_pos c, if_pos c, E.w64 (by omega) (by omega), flr_of hb e (by subst c; omega)]
    exact ⟨rfl, rfl⟩
  · rw [if_neg c, if_neg c]
    have hr1 : -9223372036854775808 ≤ r ∧ r ≤ 9223372036854775807 := by
      by_cases h : 0 < b
      · have := p h; omega
      · have := n (by omega); omega
    have hx := xor_neg hr1.1 hr1.2 (show -9223372036854775808 ≤ b by omega) gb.2
    have sg : decide (a < 0) = decide (r < 0) := by
      by_cases z : a < 0
      · have := s2 (by omega); simp [z]; omega
      · have := s1 (by omega); simp [z]; omega
    rw [sg]
    by_cases z : ((decide (r < 0)) != (decide (b < 0))) = true
    · rw [if_pos (hx.2 z), if_pos z, E.w64 (x := q) (by omega) (by omega), E.w64 (by omega) (by omega)]
      have z' : (r < 0 ∧ 0 < b) ∨ (0 < r ∧ b < 0) := by
        by_cases z1 : r < 0 <;> by_cases z2 : b < 0 <;> simp [z1, z2] at z <;> omega
      have e2 : a = b * (q - 1) + (r + b) := by rw [Int.mul_sub]; omega
      rw [flr_of hb e2 (by rcases z' with z' | z'; · have := p z'.2; omega
                           · have := n z'.2; omega)]
      exact ⟨rfl, rfl⟩
    · rw [if_neg (fun h => z (hx.1 h)), if_neg z, E.w64 (x := q) (by omega) (by omega)]
      have z' : (0 ≤ r ∧ 0 < b) ∨ (r ≤ 0 ∧ b < 0) := by
        by_cases z1 : r < 0 <;> by_cases z2 : b < 0 <;> simp [z1, z2] at z <;> omega
      rw [flr_of hb e (by rcases z' with z' | z'; · have := p z'.2; omega
                          · have := n z'.2; omega)]
      exact ⟨rfl, rfl⟩
end Go.Proofs.YtnpcmgajplikbaaGreatDoor.Nm

/- What rounding comes to, in the program and in the document's answer. -/
namespace Go.Proofs.YtnpcmgajplikbaaGreatDoor.Nm
open Go.RowKit Go.Proofs.YtnpcmgajplikbaaGreatDoor.P Go.Proofs.YtnpcmgajplikbaaGreatDoorW.PrintWords Go.Proofs.YtnpcmgajplikbaaGreatDoorW.PrintLast
set_option linter.unusedVariables false
set_option linter.unusedSimpArgs false

theorem tens (j : Nat) (h : j ≤ 12) : (1 : Int) ≤ ((10 ^ j : Nat) : Int) ∧ ((10 ^ j : Nat) : Int) ≤ 1000000000000 := by
  have a := Nat.pow_le_pow_right (show 0 < 10 by omega) h
  have b := Nat.pow_pos (n := j) (show 0 < 10 by omega)
  have : (10 ^ 12 : Nat) = 1000000000000 := by decide
  omega
theorem tens_succ (j : Nat) : ((10 ^ (j + 1) : Nat) : Int) = ((10 ^ j : Nat) : Int) * 10 := by
  rw [Nat.pow_succ]; omega

/-- is a number with the rest r, of a place u wide, rounded up? -/
def upw (n u r how : Int) : Bool := if how = 0 then decide (2 * r > u ∨ (2 * r = u ∧ n > 0)) else if how = 1 then decide (n > 0) else if how = 2 then decide (n < 0) else decide (how = 3)
def rndu (n u how : Int) : Int × Bool :=
  if n % u = 0 then (n, true) else out (n - n % u + if upw n u (n % u) how = true then u else 0)
def rnd (n d how : Int) : Int × Bool :=
  if good n ∧ -8 ≤ d ∧ d ≤ 4 ∧ 0 ≤ how ∧ how ≤ 4 then rndu n ((10 ^ (4 - d).toNat : Nat) : Int) how else (0, false)

theorem flr_pos {a b : Int} (h : 0 < b) : flr a b = a / b := if_pos h
theorem at_rest {n u : Int} (hu : 0 < u) : n = u * (n / u) + n % u ∧ 0 ≤ n % u ∧ n % u < u :=
  ⟨(Int.mul_ediv_add_emod n u).symm, Int.emod_nonneg _ (by omega), Int.emod_lt_of_pos _ hu⟩

theorem told_pair {o : Option (Int × Bool)} {v : Int × Bool} (h : o = some v) : (o.bind fun t => some (t.1, t.2)) = some v := by subst h; rfl


theorem Round_end {n how u : Int} (t : Int) (g : good n) (h0 : 0 ≤ how) (h4 : how ≤ 4) (u1 : 1 ≤ u) (u2 : u ≤ 1000000000000) : Ev (fun k => num_Round.l0 k n how u t t) (rndu n u how) := by
  unfold good at g
  obtain ⟨e, r0, r1⟩ := at_rest (n := n) (show 0 < u by omega)
  have fl := (floor_is (a := n) (b := u) (by omega) g (by omega)).1
  rw [flr_pos (by omega)] at fl
  have e2 : n / u * u = n - n % u := by rw [Int.mul_comm]; omega
  refine E.succ (E.neg (by omega) (E.bindn fl ?_))
  simp only [e2]
  unfold rndu
  generalize n % u = r at *
  rw [E.w64 (x := n - r) (by omega) (by omega), show n - (n - r) = r by omega, E.w64 (x := r) (by omega) (by omega), E.w64 (x := 2 * r) (by omega) (by omega), E.w64 (x := n - r) (by omega) (by omega), E.w64 (x := n - r + u) (by omega) (by omega)]
  refine E.ite (fun c => by rw [if_pos c]; exact Ev.now _) (fun c => ?_)
  rw [if_neg c]
  have fin : ∀ b : Bool, b = upw n u r how → Ev (fun _ : Nat => if b = true then ((num_told.f (n - r + u)).bind fun t => some (t.1, t.2)) else ((num_told.f (n - r)).bind fun t => some (t.1, t.2))) (out (n - r + if upw n u r how = true then u else 0)) := by
    intro b hb
    subst hb
    by_cases z : upw n u r how = true
    · rw [show (n - r + if upw n u r how = true then u else 0) = n - r + u by rw [if_pos z]]; exact E.pos z (Ev.congr (fun _ => told_pair (told_is _)) (Ev.now _))
    · rw [show (n - r + if upw n u r how = true then u else 0) = n - r by rw [if_neg z]; omega]; exact E.neg z (Ev.congr (fun _ => told_pair (told_is _)) (Ev.now _))
  have hs : how = 0 ∨ how = 1 ∨ how = 2 ∨ how = 3 ∨ how = 4 := by omega
  refine E.ite (fun c1 => E.pos h0 (E.pos (by omega) (fin _ ?_))) (fun c1 => E.ite (fun c2 => E.pos h0 (E.pos (by omega) (fin _ ?_))) (fun c2 => E.pos h0 (E.pos (by omega) (fin _ ?_))))
  · rcases hs with rfl | rfl | rfl | rfl | rfl <;> simp [upw, rdOf, c1]
  · rcases hs with rfl | rfl | rfl | rfl | rfl <;> simp [upw, rdOf, c1, c2]
  · rcases hs with rfl | rfl | rfl | rfl | rfl <;> simp [upw, rdOf, c1, c2]

theorem Round_l {n how : Int} {r : Int × Bool} (t : Nat) (ht : t ≤ 12) (h : Ev (fun k => num_Round.l0 k n how ((10 ^ t : Nat) : Int) t t) r) : ∀ m j : Nat, j + m = t → Ev (fun k => num_Round.l0 k n how ((10 ^ j : Nat) : Int) t j) r := by
  intro m
  induction m with
  | zero => intro j e; rw [show j = t by omega]; exact h
  | succ m ih =>
    intro j e
    have b := tens j (by omega)
    refine E.succ (E.pos (by omega) ?_)
    rw [← tens_succ, E.w64 (x := (j : Int) + 1) (by omega) (by omega), E.w64 (by rw [tens_succ]; omega) (by rw [tens_succ]; omega)]
    exact ih (j + 1) (by omega)

theorem Round_is (n d how : Int) (hd : -9223372036854775808 ≤ d ∧ d ≤ 9223372036854775807) : Ev (fun k => num_Round.f k n d how) (rnd n d how) := by
  have no : Ev (fun k => num_Round.j0 k n d how true) (0, false) := by
    refine E.succ ?_
    simp only [num_Round.j0]
    exact E.pos trivial (Ev.now _)
  refine E.bindn (Good_is n) ?_
  unfold rnd
  by_cases c : good n ∧ -8 ≤ d ∧ d ≤ 4 ∧ 0 ≤ how ∧ how ≤ 4
  · obtain ⟨g, c1, c2, c3, c4⟩ := c
    rw [if_pos ⟨g, c1, c2, c3, c4⟩]
    refine E.pos (decide_eq_true g) (E.neg (by omega) (E.neg (by omega) (E.neg (by omega) (E.succ (E.neg (by simp; omega) ?_)))))
    rw [E.w64 (x := 4 - d) (by omega) (by omega)]
    obtain ⟨t, ht⟩ : ∃ t : Nat, 4 - d = t := ⟨(4 - d).toNat, by omega⟩
    rw [ht]
    have := tens t (by omega)
    exact Round_l t (by omega) (Round_end t g c3 c4 this.1 this.2) t 0 (by omega)
  · rw [if_neg c]
    refine E.ite (fun a => E.ite (fun _ => no) (fun b => E.ite (fun _ => no) (fun b2 => E.ite (fun _ => no) (fun b3 => ?_)))) (fun _ => no)
    exact E.succ (E.pos (by simp only [decide_eq_true_eq] at a ⊢; omega) (Ev.now _))

end Go.Proofs.YtnpcmgajplikbaaGreatDoor.Nm

/- What products, quotients and rests of numbers come to, in the program and in the document's answer. -/
namespace Go.Proofs.YtnpcmgajplikbaaGreatDoor.Nm
open Go.RowKit Go.Proofs.YtnpcmgajplikbaaGreatDoor.P Go.Proofs.YtnpcmgajplikbaaGreatDoorW.PrintWords Go.Proofs.YtnpcmgajplikbaaGreatDoorW.PrintLast
set_option linter.unusedVariables false
set_option linter.unusedSimpArgs false

def ab (n : Int) : Int := if n < 0 then -n else n
theorem both_step {l : List Int} {n i : Int} {r : Bool} (h1 : i < n) (h0 : 0 ≤ i) (h2 : i < (l.length : Int)) (h : Ev (fun k => (num_Good.f (rd l i)).bind fun t => if t = true then num_both.l0 k l n (wrap64 (i + 1)) else some false) r) : Ev (fun k => num_both.l0 k l n i) r := E.succ (E.pos h1 (E.pos h0 (E.pos h2 h)))
theorem both_end {l : List Int} {n i : Int} (h : ¬ i < n) : Ev (fun k => num_both.l0 k l n i) true := E.succ (E.neg h (Ev.now _))
theorem both_is (a b : Int) : Ev (fun k => num_both.f k [a, b]) (decide (good a ∧ good b)) := by
  have r0 : rd ([a, b] : List Int) 0 = a := rfl
  have r1 : rd ([a, b] : List Int) 1 = b := rfl
  show Ev (fun k => num_both.l0 k [a, b] 2 0) _
  refine both_step (by omega) (by omega) (by simp) ?_
  rw [r0]
  refine E.bindn (Good_is a) ?_
  by_cases ga : good a
  · refine E.pos (decide_eq_true ga) ?_
    rw [show wrap64 (0 + 1) = 1 by decide +kernel]
    refine both_step (by omega) (by omega) (by simp) ?_
    rw [r1]
    refine E.bindn (Good_is b) ?_
    by_cases gb : good b
    · refine E.pos (decide_eq_true gb) ?_
      rw [show wrap64 (1 + 1) = 2 by decide +kernel, decide_eq_true (show good a ∧ good b from ⟨ga, gb⟩)]
      exact both_end (by omega)
    · rw [decide_eq_false (show ¬ (good a ∧ good b) from fun h => gb h.2)]
      exact E.neg (by simp [gb]) (Ev.now _)
  · rw [decide_eq_false (show ¬ (good a ∧ good b) from fun h => ga h.1)]
    exact E.neg (by simp [ga]) (Ev.now _)

/-- with a product's sign -/
def sgn (u a b : Int) : Int × Bool := if u > 100000000000 then (0, false) else if ((decide (a < 0)) != (decide (b < 0))) = true then (-u, true) else (u, true)
def mul (a b : Int) : Int × Bool := if good a ∧ good b then sgn ((ab a * ab b + 5000) / 10000) a b else (0, false)
end Go.Proofs.YtnpcmgajplikbaaGreatDoor.Nm

/- What sums, rests, whole quotients and powers come to, in the program and in the document's answer. -/
namespace Go.Proofs.YtnpcmgajplikbaaGreatDoor.Nm
open Go.RowKit Go.Proofs.YtnpcmgajplikbaaGreatDoor.P Go.Proofs.YtnpcmgajplikbaaGreatDoorW.PrintWords Go.Proofs.YtnpcmgajplikbaaGreatDoorW.PrintLast
set_option linter.unusedVariables false
set_option linter.unusedSimpArgs false

def add (a b : Int) : Int × Bool := if good a ∧ good b then out (a + b) else (0, false)
/-- so many times a number -/
def pw (a : Int) : Nat → Int → Int × Bool
  | 0, p => (p, true)
  | n + 1, p => if (mul p a).2 = true then pw a n (mul p a).1 else (0, false)
end Go.Proofs.YtnpcmgajplikbaaGreatDoor.Nm

/- What powers and greatest common divisors come to, in the program and in the document's answer. -/
namespace Go.Proofs.YtnpcmgajplikbaaGreatDoor.Nm
open Go.RowKit Go.Proofs.YtnpcmgajplikbaaGreatDoor.P Go.Proofs.YtnpcmgajplikbaaGreatDoorW.PrintWords Go.Proofs.YtnpcmgajplikbaaGreatDoorW.PrintLast
set_option linter.unusedVariables false
set_option linter.unusedSimpArgs false

theorem Gcd_l : ∀ (m : Nat) (a b : Int), b.natAbs ≤ m → good a → good b → Ev (fun k => num_Gcd.f k a b) ((Nat.gcd a.natAbs b.natAbs : Nat) : Int) := by
  intro m
  induction m with
  | zero =>
    intro a b h ga gb
    have hb : b = 0 := by omega
    subst hb
    unfold good at ga
    refine E.succ (Ev.bind (both_is a 0) (E.pos (decide_eq_true ⟨ga, gb⟩) (E.pos (by rfl) (E.now ?_))))
    rw [E.w64 (by omega) (by omega)]
    unfold mx
    simp
    omega
  | succ m ih =>
    intro a b h ga gb
    by_cases hb : b = 0
    · exact ih a b (by omega) ga gb
    · refine E.succ (Ev.bind (both_is a b) (E.pos (decide_eq_true ⟨ga, gb⟩) (E.neg hb ?_)))
      have e := Int.natAbs_tmod a b
      have lt := Nat.mod_lt a.natAbs (show 0 < b.natAbs by omega)
      have gb' := gb
      unfold good at gb'
      have r := ih b (Int.tmod a b) (by omega) gb (by unfold good; omega)
      rw [e, Nat.gcd_comm, ← Nat.gcd_rec, Nat.gcd_comm] at r
      exact Ev.bind r (Ev.now _)
end Go.Proofs.YtnpcmgajplikbaaGreatDoor.Nm

/- What the text of a number comes to, in the program and in the document's answer. -/
namespace Go.Proofs.YtnpcmgajplikbaaGreatDoor.Nm
open Go.RowKit Go.Proofs.YtnpcmgajplikbaaGreatDoor.P Go.Proofs.YtnpcmgajplikbaaGreatDoorW.PrintWords Go.Proofs.YtnpcmgajplikbaaGreatDoorW.PrintLast
set_option linter.unusedVariables false
set_option linter.unusedSimpArgs false

theorem son_size (x : List Int) : (strOfNums x).size = x.length := by simp [strOfNums, ByteArray.size]

end Go.Proofs.YtnpcmgajplikbaaGreatDoor.Nm

/- What the number of a text comes to, in the program and in the document's answer. -/
namespace Go.Proofs.YtnpcmgajplikbaaGreatDoor.Nm
open Go.RowKit Go.Proofs.YtnpcmgajplikbaaGreatDoor.P Go.Proofs.YtnpcmgajplikbaaGreatDoorW.PrintWords Go.Proofs.YtnpcmgajplikbaaGreatDoorW.PrintLast
set_option linter.unusedVariables false
set_option linter.unusedSimpArgs false

/-- are all bytes digits? -/
def dgs : List UInt8 → Bool
  | [] => true
  | c :: l => decide (48 ≤ (c.toNat : Int) ∧ (c.toNat : Int) ≤ 57) && dgs l
/-- the number of digits, from n on -/
def val : List UInt8 → Int → Int
  | [], n => n
  | c :: l, n => val l (10 * n + ((c.toNat : Int) - 48))
theorem pow_pos' (j : Nat) : (1 : Int) ≤ 10 ^ j := by
  have := Nat.pow_pos (n := j) (show 0 < 10 by omega)
  have e : ((10 ^ j : Nat) : Int) = (10 : Int) ^ j := by simp
  omega
theorem pow_le' {i j : Nat} (h : i ≤ j) : (10 : Int) ^ i ≤ 10 ^ j := by
  have := Nat.pow_le_pow_right (show 0 < 10 by omega) h
  have e : ((10 ^ j : Nat) : Int) = (10 : Int) ^ j := by simp
  have e' : ((10 ^ i : Nat) : Int) = (10 : Int) ^ i := by simp
  omega
theorem val_bd : ∀ (l : List UInt8) (n : Int) (j : Nat), dgs l = true → 0 ≤ n → n < 10 ^ j → 0 ≤ val l n ∧ val l n < 10 ^ (j + l.length) := by
  intro l
  induction l with
  | nil => intro n j _ h k; exact ⟨h, k⟩
  | cons c l ih =>
    intro n j d h k
    simp only [dgs, Bool.and_eq_true, decide_eq_true_eq] at d
    have := ih (10 * n + ((c.toNat : Int) - 48)) (j + 1) d.2 (by omega) (by rw [Int.pow_succ]; omega)
    rw [show j + 1 + l.length = j + (c :: l).length by simp only [List.length_cons]; omega] at this
    exact this
theorem p15 : (10 : Int) ^ 15 = 1000000000000000 := by decide
theorem cntf_is : ∀ (l : List UInt8) (n : Int) (j : Nat), 0 ≤ n → n < 10 ^ j → j + l.length ≤ 15 → dgs l = true → X.cntf l n = some (val l n) := by
  intro l
  induction l with
  | nil => intro n j _ _ _ _; rfl
  | cons c l ih =>
    intro n j h k hl d
    simp only [dgs, Bool.and_eq_true, decide_eq_true_eq] at d
    simp only [List.length_cons] at hl
    have b : 10 * n + ((c.toNat : Int) - 48) < 10 ^ (j + 1) := by rw [Int.pow_succ]; omega
    have b2 := pow_le' (show j + 1 ≤ 15 by omega)
    rw [p15] at b2
    show (if (c.toNat : Int) < 48 ∨ (c.toNat : Int) > 57 then none else X.cntf l _) = _
    rw [if_neg (by omega), if_neg (by omega)]
    exact ih _ (j + 1) (by omega) b (by omega) d.2
theorem cntf_no : ∀ (l : List UInt8) (n : Int), dgs l = false → X.cntf l n = none := by
  intro l
  induction l with
  | nil => intro n h; cases h
  | cons c l ih =>
    intro n h
    show (if (c.toNat : Int) < 48 ∨ (c.toNat : Int) > 57 then none else X.cntf l _) = _
    by_cases z : (c.toNat : Int) < 48 ∨ (c.toNat : Int) > 57
    · rw [if_pos z]
    · rw [if_neg z]
      apply ih
      simp only [dgs] at h
      rw [decide_eq_true (show 48 ≤ (c.toNat : Int) ∧ (c.toNat : Int) ≤ 57 by omega), Bool.true_and] at h
      exact h
theorem cntf_some : ∀ (l : List UInt8) (n : Int), dgs l = true → ∃ m, X.cntf l n = some m := by
  intro l
  induction l with
  | nil => intro n _; exact ⟨n, rfl⟩
  | cons c l ih =>
    intro n h
    simp only [dgs, Bool.and_eq_true, decide_eq_true_eq] at h
    show ∃ m, (if (c.toNat : Int) < 48 ∨ (c.toNat : Int) > 57 then none else X.cntf l _) = some m
    rw [if_neg (by omega)]
    exact ih _ h.2

/-- so many digits, from least to most? -/
def okd (s : ByteArray) (a b : Int) : Bool := dgs s.data.toList && (decide (a ≤ (s.size : Int)) && decide ((s.size : Int) ≤ b))
theorem sz (s : ByteArray) : s.data.toList.length = s.size := by rw [Array.length_toList]; rfl
theorem count_ok {s : ByteArray} {a b : Int} (hb : b ≤ 15) (h : okd s a b = true) : num_count.f s a b = some (val s.data.toList 0, true) := by
  unfold okd at h
  simp only [Bool.and_eq_true, decide_eq_true_eq] at h
  unfold num_count.f
  rw [cntf_is s.data.toList 0 0 (by omega) (by decide) (by rw [sz]; omega) h.1]
  simp only
  rw [decide_eq_true h.2.1, decide_eq_true h.2.2]
  rfl
theorem count_no {s : ByteArray} {a b : Int} (h : okd s a b = false) : ∃ n, num_count.f s a b = some (n, false) := by
  unfold num_count.f
  cases d : dgs s.data.toList with
  | false => rw [cntf_no _ _ d]; exact ⟨0, rfl⟩
  | true =>
    obtain ⟨m, hm⟩ := cntf_some _ 0 d
    rw [hm]
    unfold okd at h
    rw [d, Bool.true_and] at h
    exact ⟨m, by simp only [h]⟩
theorem bt_get {s : ByteArray} {i : Nat} (h : i < s.size) : bt s (i : Int) = ((s[i]'h).toNat : Int) := (bt_at s i h).symm

def sg (neg : Bool) (n : Int) : Int × Bool := out (if neg = true then -n else n)
/-- the number of a text's parts -/
def fin (neg : Bool) (W R : ByteArray) (point : Bool) : Int × Bool :=
  if okd W 1 12 = true ∧ (point = true → okd R 1 4 = true) then sg neg (val W.data.toList 0 * 10000 + val R.data.toList 0 * 10 ^ (4 - R.size)) else (0, false)

theorem Parse_end {neg : Bool} {n m x : Int} (hn : 0 ≤ n) (kn : n < 1000000000000) : ∀ (r i : Nat), (i : Int) + r = x → x ≤ 4 → 0 ≤ m → m * 10 ^ r < 10000 → Ev (fun k => num_Parse.l0 k neg n m x i) (sg neg (n * 10000 + m * 10 ^ r)) := by
  intro r
  induction r generalizing m with
  | zero =>
    intro i e hx hm km
    rw [Int.pow_zero, Int.mul_one] at km ⊢
    refine E.succ (E.neg (by omega) ?_)
    rw [E.w64 (x := n * 10000) (by omega) (by omega), E.w64 (x := n * 10000 + m) (by omega) (by omega), E.w64 (x := -(n * 10000 + m)) (by omega) (by omega)]
    unfold sg
    refine E.ite (fun c => ?_) (fun c => ?_)
    · rw [if_pos c, told_is]; exact Ev.now _
    · rw [if_neg c, told_is]; exact Ev.now _
  | succ r ih =>
    intro i e hx hm km
    have pe : m * 10 ^ (r + 1) = m * 10 * 10 ^ r := by rw [Int.pow_succ, Int.mul_comm (10 ^ r) 10, Int.mul_assoc]
    rw [pe] at km ⊢
    have pp := pow_pos' r
    have mb : m * 10 ≤ m * 10 * 10 ^ r := by
      have := Int.mul_le_mul_of_nonneg_left pp (show 0 ≤ m * 10 by omega)
      omega
    refine E.succ (E.pos (by omega) ?_)
    rw [E.w64 (x := m * 10) (by omega) (by omega), E.w64 (x := (i : Int) + 1) (by omega) (by omega), show (i : Int) + 1 = ((i + 1 : Nat) : Int) by omega]
    exact ih (i + 1) (by omega) hx (by omega) km

end Go.Proofs.YtnpcmgajplikbaaGreatDoor.Nm

/- The number of any text, in the program and in the document's answer. -/
namespace Go.Proofs.YtnpcmgajplikbaaGreatDoor.Nm
open Go.RowKit Go.Proofs.YtnpcmgajplikbaaGreatDoor.P Go.Proofs.YtnpcmgajplikbaaGreatDoorW.PrintWords Go.Proofs.YtnpcmgajplikbaaGreatDoorW.PrintLast
set_option linter.unusedVariables false
set_option linter.unusedSimpArgs false

theorem idx_bd : ∀ (l : List UInt8) (c : UInt8), Lib.indexByte l c = -1 ∨ (0 ≤ Lib.indexByte l c ∧ Lib.indexByte l c < l.length) := by
  intro l c
  induction l with
  | nil => exact .inl rfl
  | cons b l ih =>
    show (if b == c then (0 : Int) else if Lib.indexByte l c == -1 then -1 else Lib.indexByte l c + 1) = -1 ∨ (0 ≤ (if b == c then (0 : Int) else if Lib.indexByte l c == -1 then -1 else Lib.indexByte l c + 1) ∧ (if b == c then (0 : Int) else if Lib.indexByte l c == -1 then -1 else Lib.indexByte l c + 1) < ((b :: l).length : Int))
    simp only [List.length_cons, beq_iff_eq]
    by_cases h : b = c
    · rw [if_pos h]; omega
    · rw [if_neg h]
      by_cases h2 : Lib.indexByte l c = -1
      · rw [if_pos h2]; exact .inl rfl
      · rw [if_neg h2]; omega
/-- does a text begin with a sign? what is left then -/
def ng (s : ByteArray) : Bool := decide (0 < s.size ∧ bt s 0 = 45)
def body (s : ByteArray) : ByteArray := if ng s = true then s.extract 1 s.size else s
def mid (t : ByteArray) : Int := Lib.indexByte t.data.toList 46
/-- the number of a text -/
def prs (s : ByteArray) : Int × Bool :=
  if 0 ≤ mid (body s) then fin (ng s) ((body s).extract 0 (mid (body s)).toNat) ((body s).extract (mid (body s) + 1).toNat (body s).size) true else fin (ng s) (body s) (⟨#[]⟩ : ByteArray) false

theorem u8_eq {a : UInt8} {n : Nat} (hn : n < 256) : (a.toNat : Int) = n ↔ a = UInt8.ofNat n := by
  constructor
  · intro h
    apply UInt8.toNat_inj.1
    rw [UInt8.toNat_ofNat']
    omega
  · intro h
    rw [h, UInt8.toNat_ofNat']
    omega
theorem cutp_is {s : ByteArray} (hs : s.size ≤ 140737488351232) : strings_CutPrefix.f s (⟨#[45]⟩ : ByteArray) = some (body s, ng s) := by
  have s1 : ((⟨#[45]⟩ : ByteArray).size : Int) = 1 := rfl
  have l1 : (⟨#[45]⟩ : ByteArray).toList = [45] := by decide +kernel
  have hp : stringslite_HasPrefix.f s (⟨#[45]⟩ : ByteArray) = some (ng s) := by
    unfold stringslite_HasPrefix.f ng
    rw [s1, l1]
    by_cases c : (s.size : Int) ≥ 1
    · rw [if_pos c, if_pos (by omega), if_pos c]
      have h0 : 0 < s.size := by omega
      have e : (s.extract 0 ((1 : Int)).toNat).toList = [s[0]'h0] := by
        rw [ByteArray.toList_eq, ByteArray.data_extract, Array.toList_extract, show ((1 : Int)).toNat = 1 from rfl]
        have := X.drop_get s 0 h0
        rw [List.drop_zero] at this
        rw [this]
        rfl
      have b0 : bt s 0 = ((s[0]'h0).toNat : Int) := bt_get (i := 0) h0
      rw [e, b0]
      congr 1
      by_cases z : s[0]'h0 = 45
      · rw [z]; simp [h0]
      · have : ¬ (((s[0]'h0).toNat : Int) = 45) := fun h => z ((u8_eq (n := 45) (by omega)).1 h)
        rw [decide_eq_false (fun h => this h.2)]
        simp [z]
    · rw [if_neg c, decide_eq_false (by omega)]
  unfold strings_CutPrefix.f stringslite_CutPrefix.f
  rw [hp]
  simp only [Option.bind_some]
  unfold body
  by_cases c : ng s = true
  · rw [if_pos c, if_pos c, s1, if_pos (by omega), if_pos (by have := of_decide_eq_true c; omega), c]
    rfl
  · rw [if_neg c, if_neg c, show ng s = false by simpa using c]
    rfl
theorem body_size {s : ByteArray} (hs : s.size ≤ 140737488351232) : (body s).size ≤ 140737488351232 := by
  unfold body
  split
  · rw [ByteArray.size_extract]; omega
  · exact hs

theorem cut_is {t : ByteArray} (ht : t.size ≤ 140737488351232) : Ev (fun k => strings_Cut.f k t (⟨#[46]⟩ : ByteArray)) (if 0 ≤ mid t then (t.extract 0 (mid t).toNat, t.extract (mid t + 1).toNat t.size, true) else (t, (⟨#[]⟩ : ByteArray), false)) := by
  have s1 : ((⟨#[46]⟩ : ByteArray).size : Int) = 1 := rfl
  have l1 : (⟨#[46]⟩ : ByteArray).toList = [46] := by decide +kernel
  have b1 : bt (⟨#[46]⟩ : ByteArray) 0 = 46 := by decide +kernel
  have ix : Ev (fun k => stringslite_Index.f k t (⟨#[46]⟩ : ByteArray)) (mid t) := by
    refine E.neg (by rw [s1]; omega) ?_
    rw [s1, l1]
    cases h : (([46] : List UInt8) == t.toList) with
    | true =>
      refine E.succ ?_
      simp only [stringslite_Index.j0]
      refine E.pos trivial (E.now ?_)
      have : t.data.toList = [46] := by rw [← ByteArray.toList_eq]; exact (beq_iff_eq.1 h).symm
      unfold mid
      rw [this]
      rfl
    | false =>
      refine E.succ ?_
      simp only [stringslite_Index.j0, b1]
      exact E.neg (by simp) (E.pos trivial (E.pos (by rw [s1]; omega) (E.bindn (a := mid t) rfl (Ev.now _))))
  have lt := idx_bd t.data.toList 46
  rw [sz] at lt
  unfold strings_Cut.f stringslite_Cut.f
  refine Ev.bind (a := (if 0 ≤ mid t then (t.extract 0 (mid t).toNat, t.extract (mid t + 1).toNat t.size, true) else (t, (⟨#[]⟩ : ByteArray), false))) (Ev.bind ix ?_) (Ev.now _)
  rw [s1]
  have lt' : mid t = -1 ∨ (0 ≤ mid t ∧ mid t < t.size) := lt
  refine E.ite (fun c => ?_) (fun c => ?_)
  · rw [E.w64 (x := mid t + 1) (by omega) (by omega)]
    refine E.is ?_ (if_pos c).symm
    exact E.pos c (E.pos (by omega) (E.pos (by omega) (E.pos (by omega) (Ev.now _))))
  · refine E.is ?_ (if_neg c).symm
    exact Ev.now _

theorem okd_sz {s : ByteArray} {a b : Int} (h : okd s a b = true) : dgs s.data.toList = true ∧ a ≤ s.size ∧ (s.size : Int) ≤ b := by
  unfold okd at h
  simpa using h
theorem val0 {s : ByteArray} (d : dgs s.data.toList = true) : 0 ≤ val s.data.toList 0 ∧ val s.data.toList 0 < 10 ^ s.size := by
  have := val_bd s.data.toList 0 0 d (by omega) (by decide)
  rw [Nat.zero_add, sz] at this
  exact this

theorem Parse_tail {neg : Bool} {W R : ByteArray} {n : Int} (dW : dgs W.data.toList = true) (hW : W.size ≤ 12) (dR : dgs R.data.toList = true) (hR : R.size ≤ 4) (hn : n = val W.data.toList 0) : Ev (fun k => num_Parse.j0 k neg R n (val R.data.toList 0) false) (sg neg (n * 10000 + val R.data.toList 0 * 10 ^ (4 - R.size))) := by
  have vW := val0 dW
  have vR := val0 dR
  have p12 : (10 : Int) ^ 12 = 1000000000000 := by decide
  have pw := pow_le' hW
  rw [p12] at pw
  refine E.succ ?_
  simp only [num_Parse.j0]
  rw [E.w64 (x := 4 - (R.size : Int)) (by omega) (by omega)]
  refine E.neg (by simp) (Parse_end (by omega) (by omega) (4 - R.size) 0 (by omega) (by omega) vR.1 ?_)
  have e : (10 : Int) ^ R.size * 10 ^ (4 - R.size) = 10000 := by
    rw [← Int.pow_add, show R.size + (4 - R.size) = 4 by omega]; rfl
  have := Int.mul_lt_mul_of_pos_right vR.2 (show (0 : Int) < 10 ^ (4 - R.size) by have := pow_pos' (4 - R.size); omega)
  omega

theorem Parse_is {s : ByteArray} (hs : s.size ≤ 140737488351232) : Ev (fun k => num_Parse.f k s) (prs s) := by
  have no : ∀ (b : Bool) (R : ByteArray) (x y : Int), Ev (fun k => num_Parse.j0 k b R x y true) (0, false) := fun b R x y => by
    refine E.succ ?_
    simp only [num_Parse.j0]
    exact E.pos trivial (Ev.now _)
  have bs := body_size hs
  refine E.bindn (cutp_is hs) (Ev.bind (cut_is bs) ?_)
  unfold prs
  generalize body s = t at *
  generalize ng s = b
  have key : ∀ (W R : ByteArray) (point : Bool), (point = false → R = (⟨#[]⟩ : ByteArray)) → Ev (fun k => (num_count.f W 1 12).bind fun bt115 => (num_count.f R 1 4).bind fun bt117 => if bt115.2 = true then (if point = true then num_Parse.j0 k b R bt115.1 bt117.1 (!bt117.2) else num_Parse.j0 k b R bt115.1 bt117.1 false) else num_Parse.j0 k b R bt115.1 bt117.1 true) (fin b W R point) := by
    intro W R point hp
    unfold fin
    cases hW : okd W 1 12 with
    | false =>
      obtain ⟨n, e⟩ := count_no hW
      rw [if_neg (fun h => by cases h.1)]
      cases hR : okd R 1 4 with
      | false =>
        obtain ⟨m, e2⟩ := count_no hR
        exact E.bindn e (E.bindn e2 (E.neg (by simp) (no _ _ _ _)))
      | true => exact E.bindn e (E.bindn (count_ok (by omega) hR) (E.neg (by simp) (no _ _ _ _)))
    | true =>
      have zW := okd_sz hW
      refine E.bindn (count_ok (by omega) hW) ?_
      cases point with
      | false =>
        have hR := hp rfl
        subst hR
        rw [if_pos ⟨rfl, fun h => by cases h⟩]
        refine E.bindn (a := (0, false)) rfl (E.pos (by rfl) (E.neg (by simp) ?_))
        exact Parse_tail (R := (⟨#[]⟩ : ByteArray)) zW.1 (by omega) rfl (by decide) rfl
      | true =>
        cases hR : okd R 1 4 with
        | false =>
          obtain ⟨m, e2⟩ := count_no hR
          rw [if_neg (fun h => by have := h.2 rfl; cases this)]
          refine E.bindn e2 (E.pos (by rfl) (E.pos (by rfl) ?_))
          exact no _ _ _ _
        | true =>
          have zR := okd_sz hR
          rw [if_pos ⟨rfl, fun _ => rfl⟩]
          refine E.bindn (count_ok (by omega) hR) (E.pos (by rfl) (E.pos (by rfl) ?_))
          exact Parse_tail zW.1 (by omega) zR.1 (by omega) rfl
  by_cases c : 0 ≤ mid t
  · rw [if_pos c, if_pos c]
    exact key _ _ true (fun h => by cases h)
  · rw [if_neg c, if_neg c]
    exact key _ _ false (fun _ => rfl)

end Go.Proofs.YtnpcmgajplikbaaGreatDoor.Nm

/- What values are turned into, in the program and in the document's answer. -/
namespace Go.Proofs.YtnpcmgajplikbaaGreatDoor.Vl
open Go.RowKit Go.Proofs.YtnpcmgajplikbaaGreatDoor.P Go.Proofs.YtnpcmgajplikbaaGreatDoor.Nm Go.Proofs.YtnpcmgajplikbaaGreatDoorW.PrintWords Go.Proofs.YtnpcmgajplikbaaGreatDoorW.PrintLast
set_option linter.unusedVariables false
set_option linter.unusedSimpArgs false

/-- does a text begin with an apostrophe -/
def q (s : ByteArray) : Bool := decide (0 < s.size ∧ bt s 0 = 39)
/-! ### what a value is turned into -/
def tnum (a b : Int) (s : ByteArray) : Int × Int :=
  if a = 0 then (0, 0) else if a = 1 then (b, 0) else if a = 3 then (if b = 0 then (0, 0) else (10000, 0)) else if a = 2 then (if (prs s).2 = true then ((prs s).1, 0) else (0, 2)) else if a = 4 then (0, b) else (0, 2)
theorem ite_same {c : Prop} [Decidable c] {α : Type} {g f : Nat → Option α} {x y : α} (h : c → Ev g x) (k : ¬ c → Ev f y) : Ev (fun n => if c then g n else f n) (if c then x else y) :=
  E.ite (fun hc => by rw [if_pos hc]; exact h hc) (fun hc => by rw [if_neg hc]; exact k hc)
theorem ToNum_is {a b : Int} {s : ByteArray} (hs : s.size ≤ 140737488351232) : Ev (fun k => value_ToNum.f k a b s) (tnum a b s) :=
  ite_same (fun _ => Ev.now _) (fun _ => ite_same (fun _ => Ev.now _) (fun _ => ite_same (fun _ => ite_same (fun _ => Ev.now _) (fun _ => Ev.now _)) (fun _ => ite_same (fun _ => Ev.bind (Parse_is hs) (ite_same (fun _ => Ev.now _) (fun _ => Ev.now _))) (fun _ => ite_same (fun _ => Ev.now _) (fun _ => Ev.now _)))))
/-- is it a value -/
def gdv (a b : Int) (s : ByteArray) : Prop :=
  (a = 0 ∧ b = 0 ∧ s.size = 0) ∨ (a = 1 ∧ good b ∧ s.size = 0) ∨ (a = 2 ∧ b = 0 ∧ s.size ≤ 255) ∨ (a = 3 ∧ (b = 0 ∨ b = 1) ∧ s.size = 0) ∨ (a = 4 ∧ 1 ≤ b ∧ b ≤ 8 ∧ s.size = 0)
instance (a b : Int) (s : ByteArray) : Decidable (gdv a b s) := by unfold gdv good; infer_instance
end Go.Proofs.YtnpcmgajplikbaaGreatDoor.Vl

/- How great the results of package num are. -/
namespace Go.Proofs.YtnpcmgajplikbaaGreatDoor.Mt
open Go.RowKit Go.Proofs.YtnpcmgajplikbaaGreatDoor.P Go.Proofs.YtnpcmgajplikbaaGreatDoor.Nm Go.Proofs.YtnpcmgajplikbaaGreatDoorW.PrintWords Go.Proofs.YtnpcmgajplikbaaGreatDoorW.PrintLast
set_option linter.unusedVariables false
set_option linter.unusedSimpArgs false

theorem out_bd (n : Int) : -100000000000 ≤ (out n).1 ∧ (out n).1 ≤ 100000000000 := by
  unfold out
  split
  · rename_i h; exact h
  · simp
theorem rnd_bd (n d how : Int) : -100000000000 ≤ (rnd n d how).1 ∧ (rnd n d how).1 ≤ 100000000000 := by
  unfold rnd
  split
  · rename_i h
    unfold rndu
    split
    · exact h.1
    · exact out_bd _
  · simp
def gcdS (a b : Int) : Int := if good a ∧ good b then ((Nat.gcd a.natAbs b.natAbs : Nat) : Int) else 0
theorem Gcd_is1 (a b : Int) : Ev (fun k => num_Gcd.f k a b) (gcdS a b) := by
  by_cases h : good a ∧ good b
  · rw [gcdS, if_pos h]
    exact Gcd_l b.natAbs a b (by omega) h.1 h.2
  · rw [gcdS, if_neg h]
    exact E.succ (Ev.bind (both_is a b) (E.neg (by simpa using h) (Ev.now _)))
theorem gcdS_bd (a b : Int) : 0 ≤ gcdS a b ∧ gcdS a b ≤ 100000000000 := by
  unfold gcdS
  split
  · rename_i h
    obtain ⟨g1, g2⟩ := h
    unfold good at g1 g2
    refine ⟨by omega, ?_⟩
    by_cases h0 : a.natAbs = 0
    · rw [h0, Nat.gcd_zero_left]
      omega
    · have := Nat.gcd_le_left b.natAbs (show 0 < a.natAbs by omega)
      omega
  · simp
end Go.Proofs.YtnpcmgajplikbaaGreatDoor.Mt

/- The digits of a number to a base. -/
namespace Go.Proofs.YtnpcmgajplikbaaGreatDoor.Mt
open Go.RowKit Go.Proofs.YtnpcmgajplikbaaGreatDoor.P Go.Proofs.YtnpcmgajplikbaaGreatDoor.Nm Go.Proofs.YtnpcmgajplikbaaGreatDoorW.PrintWords Go.Proofs.YtnpcmgajplikbaaGreatDoorW.PrintLast
set_option linter.unusedVariables false
set_option linter.unusedSimpArgs false

def dgT : ByteArray := ⟨#[48, 49, 50, 51, 52, 53, 54, 55, 56, 57, 65, 66, 67, 68, 69, 70, 71, 72, 73, 74, 75, 76, 77, 78, 79, 80, 81, 82, 83, 84, 85, 86, 87, 88, 89, 90]⟩
def bdg : Nat → Int → Int → List Int → List Int
  | 0, _, _, L => L
  | m + 1, n, b, L => if n > 0 then bdg m (n / b) b (bt dgT (n % b) :: L) else L
def bdgs (n b : Int) : List Int := bdg 37 (n / b) b [bt dgT (n % b)]
theorem bdg_len : ∀ (m : Nat) (n b : Int) (L : List Int), (bdg m n b L).length ≤ L.length + m
  | 0, _, _, _ => Nat.le_refl _
  | m + 1, n, b, L => by
    unfold bdg
    split
    · have := bdg_len m (n / b) b (bt dgT (n % b) :: L)
      simp only [List.length_cons] at this
      omega
    · omega
theorem div_half {n b : Int} {m : Nat} (hn : 0 ≤ n) (hb : 2 ≤ b) (h : n < 2 ^ (m + 1)) : 0 ≤ n / b ∧ n / b < 2 ^ m := by
  refine ⟨Int.ediv_nonneg hn (by omega), Int.ediv_lt_of_lt_mul (by omega) ?_⟩
  have h1 : (2 : Int) ^ (m + 1) = 2 ^ m * 2 := Int.pow_succ 2 m
  have h2 : (2 : Int) ^ m * 2 ≤ 2 ^ m * b := Int.mul_le_mul_of_nonneg_left hb (Int.le_of_lt (Int.pow_pos (by omega)))
  omega
theorem div_le {n b : Int} (hn : 0 ≤ n) (hb : 2 ≤ b) : 0 ≤ n / b ∧ n / b ≤ n := by
  refine ⟨Int.ediv_nonneg hn (by omega), Int.ediv_le_self _ hn⟩
theorem str_is {s : ByteArray} (h : s.size ≤ 255) : value_Str.f s = some (2, 0, s) := by
  unfold value_Str.f
  rw [if_neg (by omega)]
theorem mod_b {n b : Int} (hn : 0 ≤ n) (h2 : 2 ≤ b) : Int.tmod n b = n % b ∧ Int.tdiv n b = n / b ∧ 0 ≤ n % b ∧ n % b < b :=
  ⟨Int.tmod_eq_emod_of_nonneg hn, Int.tdiv_eq_ediv_of_nonneg hn, Int.emod_nonneg _ (by omega), Int.emod_lt_of_pos _ (by omega)⟩
theorem based_l {b : Int} (h2 : 2 ≤ b) (h3 : b ≤ 36) : ∀ (m : Nat) (n : Int) (L : List Int), 0 ≤ n → n < 2 ^ m → n ≤ 100000000000 → L.length + m ≤ 100 → Ev (fun k => maths_based.l0 k n b L false) (2, 0, strOfNums (bdg m n b L)) := by
  intro m
  induction m with
  | zero =>
    intro n L hn hm hs hl
    have : n = 0 := by
      have : (2 : Int) ^ 0 = 1 := rfl
      omega
    subst this
    refine E.succ (E.neg (by decide) (E.neg (by omega) ?_))
    rw [str_is (by rw [son_size]; omega)]
    exact Ev.now _
  | succ m ih =>
    intro n L hn hm hs hl
    by_cases h0 : n > 0
    · obtain ⟨e1, e2, e3, e4⟩ := mod_b hn h2
      have hd := div_half hn h2 hm
      have hd2 := div_le hn h2
      have e : bdg (m + 1) n b L = bdg m (n / b) b (bt dgT (n % b) :: L) := by rw [bdg, if_pos h0]
      rw [e]
      refine E.succ (E.neg (by decide) (E.pos h0 (E.neg (by omega) (E.pos (by rw [e1]; omega) (E.pos (by rw [e1]; omega) ?_)))))
      rw [e1, e2, E.w64 (x := n / b) (by omega) (by omega)]
      exact E.pos (by simp only [List.length_cons, List.length_nil]; omega) (ih (n / b) (bt dgT (n % b) :: L) hd.1 hd.2 (by omega) (by simp only [List.length_cons]; omega))
    · have e : bdg (m + 1) n b L = L := by rw [bdg, if_neg h0]
      rw [e]
      refine E.succ (E.neg (by decide) (E.neg h0 ?_))
      rw [str_is (by rw [son_size]; omega)]
      exact Ev.now _
theorem based_is {n b : Int} (hn : 0 ≤ n) (hs : n ≤ 100000000000) (h2 : 2 ≤ b) (h3 : b ≤ 36) : Ev (fun k => maths_based.f k [n, b]) (2, 0, strOfNums (bdgs n b)) := by
  obtain ⟨e1, e2, e3, e4⟩ := mod_b hn h2
  have hd2 := div_le hn h2
  have r0 : rd ([n, b] : List Int) 0 = n := rfl
  have r1 : rd ([n, b] : List Int) 1 = b := rfl
  unfold maths_based.f
  rw [r0, r1]
  refine E.pos (by simp) (E.pos (by simp) (E.neg (by omega) (E.neg (by omega) (E.succ ?_))))
  simp only [maths_based.j0]
  refine E.neg (by first | (simp; omega) | omega) (E.succ (E.pos rfl (E.neg (by omega) (E.pos (by rw [e1]; omega) (E.pos (by rw [e1]; omega) ?_)))))
  rw [e1, e2, E.w64 (x := n / b) (by omega) (by omega)]
  exact E.bindn rfl (E.pos (show 1 + 0 < 140737488355328 by decide) (based_l h2 h3 37 (n / b) [bt dgT (n % b)] hd2.1 (by
    have : (2 : Int) ^ 37 = 137438953472 := by decide
    omega) (by omega) (show 1 + 37 ≤ 100 by decide)))
theorem based_no {n b : Int} (h : n < 0 ∨ b < 2 ∨ 36 < b) : Ev (fun k => maths_based.f k [n, b]) (4, 5, (⟨#[]⟩ : ByteArray)) := by
  have r0 : rd ([n, b] : List Int) 0 = n := rfl
  have r1 : rd ([n, b] : List Int) 1 = b := rfl
  have no : Ev (fun k => maths_based.j0 k n b true) (4, 5, (⟨#[]⟩ : ByteArray)) := by
    refine E.succ ?_
    simp only [maths_based.j0]
    exact E.pos trivial (Ev.now _)
  unfold maths_based.f
  rw [r0, r1]
  refine E.pos (by simp) (E.pos (by simp) (E.ite (fun _ => no) (fun c => E.ite (fun _ => no) (fun c2 => ?_))))
  rw [decide_eq_true (show b > 36 by omega)]
  exact no
end Go.Proofs.YtnpcmgajplikbaaGreatDoor.Mt

/- Bits and divisors of numbers below 3000. -/
namespace Go.Proofs.YtnpcmgajplikbaaGreatDoor.Mt
open Go.RowKit
theorem bits (a : Nat) : ∀ b : Nat, (a &&& b) + (a ||| b) = a + b ∧ (a ||| b) = (a &&& b) + (a ^^^ b) := by
  induction a using Nat.strongRecOn with
  | ind a ih =>
    intro b
    by_cases h0 : a = 0
    · subst h0
      simp
    · obtain ⟨h1, h2⟩ := ih (a / 2) (by omega) (b / 2)
      rw [← Nat.and_div_two, ← Nat.or_div_two] at h1
      rw [← Nat.and_div_two, ← Nat.or_div_two, ← Nat.xor_div_two] at h2
      have e1 := @Nat.and_mod_two_eq_one a b
      have e2 := @Nat.or_mod_two_eq_one a b
      have e3 := @Nat.xor_mod_two_eq_one a b
      generalize a &&& b = p at *
      generalize a ||| b = q at *
      generalize a ^^^ b = r at *
      have hp : p % 2 = if a % 2 = 1 ∧ b % 2 = 1 then 1 else 0 := by split <;> omega
      have hq : q % 2 = if a % 2 = 1 ∨ b % 2 = 1 then 1 else 0 := by split <;> omega
      have hr : r % 2 = if ¬ (a % 2 = 1 ↔ b % 2 = 1) then 1 else 0 := by split <;> omega
      by_cases c1 : a % 2 = 1 <;> by_cases c2 : b % 2 = 1 <;> simp [c1, c2] at hp hq hr <;> omega
theorem bv_nat {x : Int} (h : 0 ≤ x) (k : x < 9223372036854775808) : (BitVec.ofInt IntKind.i64.bits x).toNat = x.toNat := by
  show (BitVec.ofInt 64 x).toNat = _
  rw [BitVec.toNat_ofInt]
  have : ((2 ^ 64 : Nat) : Int) = 18446744073709551616 := by decide
  rw [this, Int.emod_eq_of_lt h (by omega)]
theorem gcd_facts {x y : Int} (hx : 0 ≤ x) (hx2 : x < 3000) (hy : 0 ≤ y) (hy2 : y < 3000) :
    0 ≤ gcdS x y ∧ gcdS x y < 3000 ∧ (0 < gcdS x y → x.tmod (gcdS x y) = 0 ∧ y.tmod (gcdS x y) = 0) ∧ (gcdS x y = 0 → x = 0 ∧ y = 0) ∧ 0 ≤ x.tdiv (gcdS x y) ∧ x.tdiv (gcdS x y) < 3000 ∧ (gcdS x y ≠ 0 → gcdS x y * (x.tdiv (gcdS x y) * y) = x * y) := by
  have hg : gcdS x y = ((Nat.gcd x.natAbs y.natAbs : Nat) : Int) := if_pos ⟨by unfold Nm.good; omega, by unfold Nm.good; omega⟩
  have d1 := Nat.gcd_dvd_left x.natAbs y.natAbs
  have d2 := Nat.gcd_dvd_right x.natAbs y.natAbs
  have hx3 : ((x.natAbs : Nat) : Int) = x := by omega
  have hy3 : ((y.natAbs : Nat) : Int) = y := by omega
  have D1 : gcdS x y ∣ x := by rw [hg]; have := Int.natCast_dvd_natCast.2 d1; rwa [hx3] at this
  have D2 : gcdS x y ∣ y := by rw [hg]; have := Int.natCast_dvd_natCast.2 d2; rwa [hy3] at this
  have z : gcdS x y = 0 → x = 0 ∧ y = 0 := fun q => by
    rw [q] at D1 D2
    exact ⟨Int.zero_dvd.1 D1, Int.zero_dvd.1 D2⟩
  have p : 0 ≤ gcdS x y := by rw [hg]; omega
  have lt : gcdS x y < 3000 := by
    by_cases h0 : x = 0
    · by_cases h1 : y = 0
      · subst h0; subst h1; rw [hg]; decide
      · have := Int.le_of_dvd (by omega) D2; omega
    · have := Int.le_of_dvd (by omega) D1; omega
  refine ⟨p, lt, fun q => ⟨?_, ?_⟩, z, Int.tdiv_nonneg hx p, ?_, fun q => ?_⟩
  · exact Int.tmod_eq_zero_of_dvd D1
  · exact Int.tmod_eq_zero_of_dvd D2
  · rw [Int.tdiv_eq_ediv_of_nonneg hx]
    have := Int.ediv_le_self (gcdS x y) hx
    omega
  · obtain ⟨k, hk⟩ := D1
    have : ∀ d : Int, d ≠ 0 → x = d * k → x.tdiv d = k := fun d hd e => by rw [e, Int.mul_tdiv_cancel_left _ hd]
    rw [this _ q hk, ← Int.mul_assoc, ← hk]
end Go.Proofs.YtnpcmgajplikbaaGreatDoor.Mt
