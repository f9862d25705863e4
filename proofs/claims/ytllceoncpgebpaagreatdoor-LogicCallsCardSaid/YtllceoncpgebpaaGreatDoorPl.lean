/- What the functions come to, in plain words. -/
import Derived.Test.YtllceoncpgebpaaGreatDoorPx0
import Derived.Test.YtllceoncpgebpaaGreatDoorX
import Derived.Test.YtllceoncpgebpaaGreatDoorPx3
import Derived.Test.YtllceoncpgebpaaGreatDoorPx4
import Derived.Test.YtllceoncpgebpaaGreatDoorPx5
import Derived.Lib.Mul64
import Derived.Laws.Bits64
import Derived.Test.YtllceoncpgebpaaGreatDoorPx7
import Derived.Laws.Strings
import Derived.Test.YtllceoncpgebpaaGreatDoorPx6
import Derived.Test.YtllceoncpgebpaaGreatDoorY
import Derived.Test.YtllceoncpgebpaaGreatDoorPx1
import Derived.Test.YtllceoncpgebpaaGreatDoorPx10
import Derived.Test.YtllceoncpgebpaaGreatDoorPx2
import Derived.Test.YtllceoncpgebpaaGreatDoorPx8
import Derived.Test.YtllceoncpgebpaaGreatDoorPx9
namespace Go.Proofs.YtllceoncpgebpaaGreatDoor.E
open Go.RowKit Go.Proofs.YtllceoncpgebpaaGreatDoorW.PrintWords
set_option linter.unusedVariables false
set_option linter.unusedSimpArgs false
theorem pos {α : Type} {c : Prop} [Decidable c] {g f : Nat → Option α} {r : α} (h : c) (k : Ev g r) : Ev (fun n => if c then g n else f n) r := Ev.congr (fun _ => if_pos h) k
theorem neg {α : Type} {c : Prop} [Decidable c] {g f : Nat → Option α} {r : α} (h : ¬ c) (k : Ev f r) : Ev (fun n => if c then g n else f n) r := Ev.congr (fun _ => if_neg h) k
theorem ite {α : Type} {c : Prop} [Decidable c] {g f : Nat → Option α} {r : α} (h : c → Ev g r) (k : ¬ c → Ev f r) : Ev (fun n => if c then g n else f n) r := by
 by_cases e : c
 ·exact pos e (h e)
 ·exact neg e (k e)
theorem now {α : Type} {r r' : α} (h : r = r') : Ev (fun _ => some r) r' := h ▸ Ev.now r
theorem bindn {α β : Type} {o : Option α} {f : Nat → α → Option β} {a : α} {r : β} (h : o = some a) (k : Ev (fun n => f n a) r) : Ev (fun n => o.bind (f n)) r := by
 subst h; exact k
theorem is {α : Type} {g : Nat → Option α} {r r' : α} (h : Ev g r) (e : r = r') : Ev g r' := e ▸ h
theorem uniq {α : Type} {g : Nat → Option α} {r r' : α} (h : Ev g r) (h' : Ev g r') : r = r' := by
 obtain ⟨K, hK⟩ := h; obtain ⟨K', hK'⟩ := h'
 have a := hK (max K K') (Nat.le_max_left _ _); have b := hK' (max K K') (Nat.le_max_right _ _)
 exact Option.some.inj (a.symm.trans b)
theorem succ {α : Type} {g : Nat → Option α} {r : α} (k : Ev (fun n => g (n + 1)) r) : Ev g r := Ev.step (fun _ => rfl) k
theorem w64 {x : Int} (h : -9223372036854775808 ≤ x) (k : x ≤ 9223372036854775807) : wrap64 x = x := by
 unfold wrap64
 omega
end Go.Proofs.YtllceoncpgebpaaGreatDoor.E
namespace Go.Proofs.YtllceoncpgebpaaGreatDoor.Nm
open Go.RowKit Go.Proofs.YtllceoncpgebpaaGreatDoor.P Go.Proofs.YtllceoncpgebpaaGreatDoorW.PrintWords Go.Proofs.YtllceoncpgebpaaGreatDoorW.PrintLast
set_option linter.unusedVariables false
set_option linter.unusedSimpArgs false
abbrev good (n : Int) : Prop := -100000000000 ≤ n ∧ n ≤ 100000000000
theorem Good_is (n : Int) : num_Good.f n = some (decide (good n)) := by
 unfold num_Good.f good
 split <;> simp <;> omega
theorem rGood_is (n : Int) : octavoref05_Good.f n = some (decide (good n)) := by
 unfold octavoref05_Good.f good
 split <;> simp <;> omega
def out (n : Int) : Int × Bool := if good n then (n, true) else (0, false)
theorem told_is (n : Int) : num_told.f n = some (out n) := by
 unfold num_told.f out
 rw [Good_is]
 by_cases c : good n <;> simp [c]
theorem rout_is (n : Int) : octavoref05_out.f n = some (out n) := by
 unfold octavoref05_out.f out
 rw [rGood_is]
 by_cases c : good n <;> simp [c]
end Go.Proofs.YtllceoncpgebpaaGreatDoor.Nm
namespace Go.Proofs.YtllceoncpgebpaaGreatDoor.Nm
open Go.RowKit Go.Proofs.YtllceoncpgebpaaGreatDoor.P Go.Proofs.YtllceoncpgebpaaGreatDoorW.PrintWords Go.Proofs.YtllceoncpgebpaaGreatDoorW.PrintLast
set_option linter.unusedVariables false
set_option linter.unusedSimpArgs false
theorem wu {x : Int} (h : 0 ≤ x) (k : x ≤ 18446744073709551615) : IntKind.u64.wrap x = x := by rw [IntKind.wrap_u64]; omega
end Go.Proofs.YtllceoncpgebpaaGreatDoor.Nm
namespace Go.Proofs.YtllceoncpgebpaaGreatDoor.Nm
open Go.RowKit Go.Proofs.YtllceoncpgebpaaGreatDoor.P Go.Proofs.YtllceoncpgebpaaGreatDoorW.PrintWords Go.Proofs.YtllceoncpgebpaaGreatDoorW.PrintLast
set_option linter.unusedVariables false
set_option linter.unusedSimpArgs false
def ab (n : Int) : Int := if n < 0 then -n else n
theorem ab_bd {n : Int} (g : good n) : 0 ≤ ab n ∧ ab n ≤ 100000000000 := by unfold good at g; unfold ab; split <;> omega
theorem size_is {n : Int} (h : -9223372036854775808 ≤ n) (k : n ≤ 9223372036854775807) : num_size.f n = some (ab n) := by
 unfold num_size.f ab
 by_cases c : n < 0
 ·rw [if_pos c, if_pos c]
  simp only [IntKind.wrap_u64, Option.some.injEq]
  omega
 ·rw [if_neg c, if_neg c]
  simp only [IntKind.wrap_u64, Option.some.injEq]
  omega
def sgn (u a b : Int) : Int × Bool := if u > 100000000000 then (0, false) else if ((decide (a < 0)) != (decide (b < 0))) = true then (-u, true) else (u, true)
def mul (a b : Int) : Int × Bool := if good a ∧ good b then sgn ((ab a * ab b + 5000) / 10000) a b else (0, false)
end Go.Proofs.YtllceoncpgebpaaGreatDoor.Nm
namespace Go.Proofs.YtllceoncpgebpaaGreatDoor.Nm
open Go.RowKit Go.Proofs.YtllceoncpgebpaaGreatDoor.P Go.Proofs.YtllceoncpgebpaaGreatDoorW.PrintWords Go.Proofs.YtllceoncpgebpaaGreatDoorW.PrintLast
set_option linter.unusedVariables false
set_option linter.unusedSimpArgs false
theorem out_yes' {n : Int} (g : good n) : out n = (n, true) := if_pos g
def pw (a : Int) : Nat → Int → Int × Bool
 | 0, p => (p, true)
 | n + 1, p => if (mul p a).2 = true then pw a n (mul p a).1 else (0, false)
end Go.Proofs.YtllceoncpgebpaaGreatDoor.Nm
namespace Go.Proofs.YtllceoncpgebpaaGreatDoor.Nm
open Go.RowKit Go.Proofs.YtllceoncpgebpaaGreatDoor.P Go.Proofs.YtllceoncpgebpaaGreatDoorW.PrintWords Go.Proofs.YtllceoncpgebpaaGreatDoorW.PrintLast
set_option linter.unusedVariables false
set_option linter.unusedSimpArgs false
theorem son_append (x y : List Int) : strOfNums x ++ strOfNums y = strOfNums (x ++ y) := by
 apply ByteArray.ext
 simp [strOfNums, ByteArray.data_append]
theorem son_size (x : List Int) : (strOfNums x).size = x.length := by simp [strOfNums, ByteArray.size]
def dig : Nat → Int → List Int → List Int
 | 0, u, L => (48 + u % 10) :: L
 | m + 1, u, L => if u / 10 = 0 then (48 + u % 10) :: L else dig m (u / 10) ((48 + u % 10) :: L)
theorem ten_succ (m : Nat) : (10 : Int) ^ (m + 1) = 10 * 10 ^ m := by rw [Int.pow_succ, Int.mul_comm]
theorem dig_len : ∀ (m : Nat) (u : Int) (L : List Int), L.length + 1 ≤ (dig m u L).length ∧ (dig m u L).length ≤ L.length + m + 1 := by
 intro m
 induction m with
 | zero => intro u L; simp [dig]
 | succ m ih =>
  intro u L
  unfold dig
  split
  ·simp
  ·have := ih (u / 10) ((48 + u % 10) :: L)
   simp only [List.length_cons] at this
   omega
theorem dec_l : ∀ (m : Nat) (u : Int) (L : List Int), 0 ≤ u → u < 10 ^ (m + 1) → L.length + m < 20 → Ev (fun k => num_decimal.l0 k L u) (strOfNums (dig m u L)) := by
 intro m
 induction m with
 | zero =>
  intro u L h k hl
  exact E.succ (E.pos (by omega) (E.pos (by omega) (Ev.now _)))
 | succ m ih =>
  intro u L h k hl
  rw [ten_succ] at k
  refine E.succ (E.pos (by omega) ?_)
  unfold dig
  refine E.ite (fun c => by rw [if_pos c]; exact Ev.now _) (fun c => ?_)
  rw [if_neg c]
  exact ih (u / 10) _ (by omega) (by omega) (by simp only [List.length_cons]; omega)
theorem dec_is {m : Nat} {u : Int} (h : 0 ≤ u) (k : u < 10 ^ (m + 1)) (hm : m < 20) (b : u ≤ 18446744073709551615) : Ev (fun k => num_decimal.f k u) (strOfNums (dig m u [])) :=
 E.pos h (E.pos b (dec_l m u [] h k (by simpa using hm)))
theorem rdig_l : ∀ (m : Nat) (u : Int) (L : List Int), 0 ≤ u → u < 10 ^ (m + 1) → u ≤ 18446744073709551615 → L.length + m < 100 → Ev (fun k => octavoref05_Digits.l0 k u (strOfNums L)) (strOfNums (dig m u L)) := by
 have one : ∀ (u : Int) (L : List Int) (r : ByteArray), 0 ≤ u → u ≤ 18446744073709551615 → L.length < 100 → (if u / 10 = 0 then r = strOfNums ((48 + u % 10) :: L) else Ev (fun k => octavoref05_Digits.l0 k (u / 10) (strOfNums ((48 + u % 10) :: L))) r) → Ev (fun k => octavoref05_Digits.l0 k u (strOfNums L)) r := by
  intro u L r h b hl g
  refine E.succ ?_
  simp only [octavoref05_Digits.l0, Option.bind_some]
  rw [show Int.tmod u 10 = u % 10 from Int.tmod_eq_emod_of_nonneg h, show Int.tdiv u 10 = u / 10 from Int.tdiv_eq_ediv_of_nonneg h, wu (x := 48 + u % 10) (by omega) (by omega), wu (x := u / 10) (by omega) (by omega), son_append, show (48 + u % 10) % 256 = 48 + u % 10 by omega]
  refine E.pos (by rw [son_size, son_size]; simp; omega) ?_
  by_cases c : u / 10 = 0
  ·rw [if_pos c] at g; exact E.pos c (E.now g.symm)
  ·rw [if_neg c] at g; exact E.neg c g
 intro m
 induction m with
 | zero =>
  intro u L h k b hl
  exact one u L _ h b (by omega) (by rw [if_pos (by omega)]; rfl)
 | succ m ih =>
  intro u L h k b hl
  rw [ten_succ] at k
  refine one u L _ h b (by omega) ?_
  unfold dig
  by_cases c : u / 10 = 0
  ·rw [if_pos c, if_pos c]
  ·rw [if_neg c, if_neg c]
   exact ih (u / 10) _ (by omega) (by omega) (by omega) (by simp only [List.length_cons]; omega)
theorem rdig_is {m : Nat} {u : Int} (h : 0 ≤ u) (k : u < 10 ^ (m + 1)) (hm : m < 100) (b : u ≤ 18446744073709551615) : Ev (fun k => octavoref05_Digits.f k u) (strOfNums (dig m u [])) :=
 rdig_l m u [] h k b (by simpa using hm)
theorem nil_iff (x : ByteArray) : x.toList = ([] : List UInt8) ↔ x.size = 0 := by
 rw [ByteArray.toList_eq, ← List.length_eq_zero_iff, Array.length_toList]
 rfl
theorem bt_extract (s : ByteArray) (a b : Nat) (i : Int) (h : b ≤ s.size) (h0 : 0 ≤ i) (hi : a + i < b) : bt (s.extract a b) i = bt s (a + i) := by
 have h1 : i.toNat < (s.extract a b).size := by rw [ByteArray.size_extract]; omega
 have h2 : ((a : Int) + i).toNat < s.size := by omega
 unfold bt
 rw [dif_pos h1, dif_pos h2]
 congr 2
 rw [ByteArray.getElem_extract]
 congr 1
 omega
def dot (x y : ByteArray) : ByteArray := if y.size = 0 then x else x ++ ((⟨#[46]⟩ : ByteArray) ++ y)
theorem trim_l : ∀ (n : Nat) (x : ByteArray), x.size = n → n ≤ 100 → ∃ y : ByteArray, Ev (fun k => strings_trimRightByte.l0 k x 48) y ∧ y.size ≤ x.size ∧
  (∀ z : ByteArray, z.size ≤ 100 → Ev (fun k => octavoref05_Print.l0 k z x) (dot z y)) ∧ (y.size = 0 ↔ ∀ i : Int, 0 ≤ i → i < n → bt x i = 48) := by
 intro n
 induction n with
 | zero =>
  intro x hx hn
  refine ⟨x, E.succ (E.neg (by omega) (Ev.now _)), Nat.le_refl _, fun z hz => ?_, by simp [hx]; intro i a b; omega⟩
  unfold dot
  rw [if_pos hx]
  exact E.succ (E.neg (by omega) (E.pos ((nil_iff x).2 hx) (Ev.now _)))
 | succ n ih =>
  intro x hx hn
  have w : wrap64 ((x.size : Int) - 1) = n := by rw [E.w64 (by omega) (by omega)]; omega
  by_cases c : bt x n = 48
  ·have sz : (x.extract 0 n).size = n := by rw [ByteArray.size_extract]; omega
   obtain ⟨y, y1, y2, y3, y4⟩ := ih (x.extract 0 n) sz (by omega)
   refine ⟨y, ?_, by omega, fun z hz => ?_, ?_⟩
   ·refine E.succ (E.pos (by omega) ?_)
    rw [w]
    refine E.pos (by omega) (E.pos (by omega) (E.pos c (E.pos (by omega) ?_)))
    rw [show ((n : Int)).toNat = n by omega]
    exact y1
   ·refine E.succ (E.pos (by omega) ?_)
    rw [w]
    refine E.pos (by omega) (E.pos (by omega) (E.pos c (E.pos (by omega) ?_)))
    rw [show ((n : Int)).toNat = n by omega]
    exact y3 z hz
   ·rw [y4]
    refine ⟨fun h i a b => ?_, fun h i a b => ?_⟩
    ·by_cases e : i = n
     ·rw [e]; exact c
     ·have := h i a (by omega)
      rw [bt_extract x 0 n i (by omega) a (by omega), show ((0 : Nat) : Int) + i = i by omega] at this
      exact this
    ·rw [bt_extract x 0 n i (by omega) a (by omega), show ((0 : Nat) : Int) + i = i by omega]
     exact h i a (by omega)
  ·refine ⟨x, ?_, Nat.le_refl _, fun z hz => ?_, ⟨fun h => by omega, fun h => absurd (h n (by omega) (by omega)) c⟩⟩
   ·refine E.succ (E.pos (by omega) ?_)
    rw [w]
    exact E.pos (by omega) (E.pos (by omega) (E.neg c (Ev.now _)))
   ·unfold dot
    rw [if_neg (by omega)]
    refine E.succ (E.pos (by omega) ?_)
    rw [w]
    refine E.pos (by omega) (E.pos (by omega) (E.neg c (E.neg (fun h => by have := (nil_iff x).1 h; omega) ?_)))
    have s1 : ((⟨#[46]⟩ : ByteArray) ++ x).size = 1 + x.size := by rw [ByteArray.size_append]; rfl
    exact E.pos (by omega) (E.pos (by rw [s1]; omega) (Ev.now _))
theorem trim_is {x y : ByteArray} (h : x.size ≠ 0) (t : Ev (fun k => strings_trimRightByte.l0 k x 48) y) : Ev (fun k => strings_TrimRight.f k x (⟨#[48]⟩ : ByteArray)) y := by
 refine E.neg (fun e => h ((nil_iff x).1 e)) ?_
 have e0 : ((⟨#[48]⟩ : ByteArray).toList == ([] : List UInt8)) = false := by decide +kernel
 have e1 : bt (⟨#[48]⟩ : ByteArray) 0 = 48 := by decide +kernel
 rw [e0]
 refine E.succ ?_
 simp only [strings_TrimRight.j0, e1]
 refine E.neg (by simp) (E.pos (by decide) (E.pos (by decide) (E.succ ?_)))
 simp only [strings_TrimRight.j1, e1]
 refine E.pos (by decide) (E.pos (by decide) (Ev.bind (a := y) ?_ (Ev.now _)))
 exact t
theorem dig4 {r : Int} (h : 0 ≤ r) (k : r < 10000) : dig 4 (r + 10000) [] = [49, 48 + r / 1000, 48 + r / 100 % 10, 48 + r / 10 % 10, 48 + r % 10] := by
 simp only [dig]
 rw [if_neg (by omega), if_neg (by omega), if_neg (by omega), if_neg (by omega)]
 simp only [List.cons.injEq, and_true]
 omega
theorem rest4 {r : Int} (h : 0 ≤ r) (k : r < 10000) : (strOfNums (dig 4 (r + 10000) [])).extract 1 (strOfNums (dig 4 (r + 10000) [])).size = strOfNums [48 + r / 1000, 48 + r / 100 % 10, 48 + r / 10 % 10, 48 + r % 10] := by
 rw [dig4 h k]
 rw [son_size]
 apply ByteArray.ext
 simp [strOfNums]
theorem bt_son (L : List Int) (i : Nat) (h : i < L.length) (hb : 0 ≤ L[i] ∧ L[i] ≤ 255) : bt (strOfNums L) (i : Int) = L[i] := by
 have h1 : i < (strOfNums L).size := by rw [son_size]; exact h
 have e : (strOfNums L)[i]'h1 = UInt8.ofNat (L[i].toNat) := by
  show (strOfNums L).data[i]'h1 = _
  simp [strOfNums]
 rw [← bt_at (strOfNums L) (i : Int) h1]
 show (((strOfNums L)[i]'h1).toNat : Int) = _
 rw [e, UInt8.toNat_ofNat']
 omega
theorem rest_bt {r : Int} (h : 0 ≤ r) (k : r < 10000) : (∀ i : Int, 0 ≤ i → i < 4 → bt (strOfNums [48 + r / 1000, 48 + r / 100 % 10, 48 + r / 10 % 10, 48 + r % 10]) i = 48) ↔ r = 0 := by
 have b0 : bt (strOfNums [48 + r / 1000, 48 + r / 100 % 10, 48 + r / 10 % 10, 48 + r % 10]) 0 = 48 + r / 1000 := bt_son _ 0 (by simp) (by simp; omega)
 have b1 : bt (strOfNums [48 + r / 1000, 48 + r / 100 % 10, 48 + r / 10 % 10, 48 + r % 10]) 1 = 48 + r / 100 % 10 := bt_son _ 1 (by simp) (by simp; omega)
 have b2 : bt (strOfNums [48 + r / 1000, 48 + r / 100 % 10, 48 + r / 10 % 10, 48 + r % 10]) 2 = 48 + r / 10 % 10 := bt_son _ 2 (by simp) (by simp; omega)
 have b3 : bt (strOfNums [48 + r / 1000, 48 + r / 100 % 10, 48 + r / 10 % 10, 48 + r % 10]) 3 = 48 + r % 10 := bt_son _ 3 (by simp) (by simp; omega)
 constructor
 ·intro a
  have c0 := a 0 (by omega) (by omega)
  have c1 := a 1 (by omega) (by omega)
  have c2 := a 2 (by omega) (by omega)
  have c3 := a 3 (by omega) (by omega)
  omega
 ·intro e i i0 i4
  rcases (show i = 0 ∨ i = 1 ∨ i = 2 ∨ i = 3 by omega) with rfl | rfl | rfl | rfl <;> omega
theorem Print_is (n : Int) (h : -9223372036854775808 ≤ n) (k : n ≤ 9223372036854775807) : ∃ s : ByteArray, Ev (fun j => num_Print.f j n) s ∧ Ev (fun j => octavoref05_Print.f j n) s ∧
  ∃ y : ByteArray, (∃ x : ByteArray, x = strOfNums [48 + ab n % 10000 / 1000, 48 + ab n % 10000 / 100 % 10, 48 + ab n % 10000 / 10 % 10, 48 + ab n % 10000 % 10] ∧ Ev (fun k => strings_trimRightByte.l0 k x 48) y) ∧ s = dot (strOfNums ((if n < 0 then [45] else []) ++ dig 15 (ab n / 10000) [])) y := by
 have ba : 0 ≤ ab n ∧ ab n ≤ 9223372036854775808 := by unfold ab; split <;> omega
 have p16 : (10 : Int) ^ (15 + 1) = 10000000000000000 := by decide
 have p5 : (10 : Int) ^ (4 + 1) = 100000 := by decide
 have td : Int.tdiv (ab n) 10000 = ab n / 10000 := Int.tdiv_eq_ediv_of_nonneg ba.1
 have tm : Int.tmod (ab n) 10000 = ab n % 10000 := Int.tmod_eq_emod_of_nonneg ba.1
 obtain ⟨y, y1, y2, y3, y4⟩ := trim_l 4 (strOfNums [48 + ab n % 10000 / 1000, 48 + ab n % 10000 / 100 % 10, 48 + ab n % 10000 / 10 % 10, 48 + ab n % 10000 % 10]) (by rw [son_size]; rfl) (by omega)
 have y4 := Iff.trans y4 (rest_bt (r := ab n % 10000) (by omega) (by omega))
 rw [son_size] at y2
 have y2' : y.size ≤ 4 := y2
 have re := rest4 (r := ab n % 10000) (by omega) (by omega)
 have d1 := dec_is (m := 15) (u := ab n / 10000) (by omega) (by rw [p16]; omega) (by omega) (by omega)
 have d2 := dec_is (m := 4) (u := ab n % 10000 + 10000) (by omega) (by rw [p5]; omega) (by omega) (by omega)
 have e1 := rdig_is (m := 15) (u := ab n / 10000) (by omega) (by rw [p16]; omega) (by omega) (by omega)
 have e2 := rdig_is (m := 4) (u := ab n % 10000 + 10000) (by omega) (by rw [p5]; omega) (by omega) (by omega)
 have sl := dig_len 15 (ab n / 10000) []
 simp only [List.length_nil] at sl
 have s5 : (strOfNums (dig 4 (ab n % 10000 + 10000) [])).size = 5 := by rw [dig4 (by omega) (by omega), son_size]; rfl
 refine ⟨_, ?_, ?_, y, ⟨_, rfl, y1⟩, rfl⟩
 ·refine E.bindn (size_is h k) ?_
  rw [td, tm, wu (x := ab n / 10000) (by omega) (by omega), wu (x := ab n % 10000 + 10000) (by omega) (by omega)]
  refine Ev.bind d1 (E.ite (fun c => ?_) (fun c => ?_))
  ·have ny : ¬ y.size = 0 := fun e => by have := y4.1 e; omega
   refine Ev.bind d2 (E.pos (by omega) ?_)
   rw [re]
   have q1 : ((⟨#[46]⟩ : ByteArray) ++ y).size = 1 + y.size := by rw [ByteArray.size_append]; rfl
   refine Ev.bind (trim_is (by rw [son_size]; simp) y1) (E.pos (by omega) (E.pos (by rw [son_size, q1]; omega) ?_))
   unfold dot
   rw [if_neg ny]
   have q2 : (strOfNums (dig 15 (ab n / 10000) []) ++ ((⟨#[46]⟩ : ByteArray) ++ y)).size = (dig 15 (ab n / 10000) []).length + (1 + y.size) := by rw [ByteArray.size_append, son_size, q1]
   refine E.ite (fun z => E.pos (by rw [q2]; omega) (E.now ?_)) (fun z => E.now ?_)
   ·rw [if_pos z, ← son_append, ByteArray.append_assoc]; rfl
   ·rw [if_neg z]; rfl
  ·have ny : y.size = 0 := y4.2 (by omega)
   unfold dot
   rw [if_pos ny]
   refine E.ite (fun z => E.pos (by rw [son_size]; omega) (E.now ?_)) (fun z => E.now ?_)
   ·rw [if_pos z, ← son_append]; rfl
   ·rw [if_neg z]; rfl
 ·have j0 : ∀ (L : List Int), L.length ≤ 1 → Ev (fun j => octavoref05_Print.j0 j (strOfNums L) (ab n)) (dot (strOfNums (L ++ dig 15 (ab n / 10000) [])) y) := fun L hL => by
   refine E.succ ?_
   simp only [octavoref05_Print.j0]
   rw [td, tm, wu (x := ab n / 10000) (by omega) (by omega), wu (x := ab n % 10000 + 10000) (by omega) (by omega)]
   refine Ev.bind e1 (E.pos (by rw [son_size, son_size]; omega) (Ev.bind e2 (E.pos (by omega) ?_)))
   rw [re, son_append]
   exact y3 _ (by rw [son_size, List.length_append]; omega)
  refine E.ite (fun z => ?_) (fun z => ?_)
  ·rw [if_pos z, show IntKind.u64.wrap (IntKind.u64.wrap (wrap64 (-wrap64 (n + 1))) + 1) = ab n by
    rw [E.w64 (x := n + 1) (by omega) (by omega), E.w64 (x := -(n + 1)) (by omega) (by omega), wu (x := -(n + 1)) (by omega) (by omega), wu (by omega) (by omega)]
    unfold ab; rw [if_pos z]; omega]
   exact j0 [45] (by simp)
  ·rw [if_neg z, show IntKind.u64.wrap n = ab n by rw [wu (by omega) (by omega)]; unfold ab; rw [if_neg z]]
   exact j0 [] (by simp)
end Go.Proofs.YtllceoncpgebpaaGreatDoor.Nm
namespace Go.Proofs.YtllceoncpgebpaaGreatDoor.Nm
open Go.RowKit Go.Proofs.YtllceoncpgebpaaGreatDoor.P Go.Proofs.YtllceoncpgebpaaGreatDoorW.PrintWords Go.Proofs.YtllceoncpgebpaaGreatDoorW.PrintLast
set_option linter.unusedVariables false
set_option linter.unusedSimpArgs false
def dgs : List UInt8 → Bool
 | [] => true
 | c :: l => decide (48 ≤ (c.toNat : Int) ∧ (c.toNat : Int) ≤ 57) && dgs l
def val : List UInt8 → Int → Int
 | [], n => n
 | c :: l, n => val l (10 * n + ((c.toNat : Int) - 48))
theorem val_append : ∀ (a b : List UInt8) (n : Int), val (a ++ b) n = val b (val a n) := by
 intro a
 induction a with
 | nil => intro b n; rfl
 | cons c a ih => intro b n; exact ih b _
theorem dgs_append : ∀ (a b : List UInt8), dgs (a ++ b) = (dgs a && dgs b) := by
 intro a
 induction a with
 | nil => intro b; rfl
 | cons c a ih => intro b; simp only [List.cons_append, dgs, ih, Bool.and_assoc]
theorem val_lin : ∀ (l : List UInt8) (n : Int), val l n = n * 10 ^ l.length + val l 0 := by
 intro l
 induction l with
 | nil => intro n; simp [val]
 | cons c l ih =>
  intro n
  show val l (10 * n + ((c.toNat : Int) - 48)) = n * 10 ^ (l.length + 1) + val l (10 * 0 + ((c.toNat : Int) - 48))
  rw [ih (10 * n + ((c.toNat : Int) - 48)), ih (10 * 0 + ((c.toNat : Int) - 48)), Int.pow_succ, Int.mul_zero, Int.zero_add, Int.add_mul, ← Int.mul_assoc, show n * 10 ^ l.length * 10 = 10 * n * 10 ^ l.length by rw [Int.mul_comm 10 n, Int.mul_right_comm], Int.add_assoc]
theorem pow_pos' (j : Nat) : (1 : Int) ≤ 10 ^ j := by
 have := Nat.pow_pos (n := j) (show 0 < 10 by omega)
 have e : ((10 ^ j : Nat) : Int) = (10 : Int) ^ j := by simp
 omega
theorem pow_le' {i j : Nat} (h : i ≤ j) : (10 : Int) ^ i ≤ 10 ^ j := by
 have := Nat.pow_le_pow_right (show 0 < 10 by omega) h
 have e : ((10 ^ j : Nat) : Int) = (10 : Int) ^ j := by simp
 have e' : ((10 ^ i : Nat) : Int) = (10 : Int) ^ i := by simp
 omega
theorem val_bd : ∀ (l : List UInt8) (n : Int) (j : Nat), dgs l = true → 0 ≤ n → n < 10 ^ j → 0 ≤ val l n ∧ val l n < 10 ^ (j + l.length) := by
 intro l
 induction l with
 | nil => intro n j _ h k; exact ⟨h, k⟩
 | cons c l ih =>
  intro n j d h k
  simp only [dgs, Bool.and_eq_true, decide_eq_true_eq] at d
  have := ih (10 * n + ((c.toNat : Int) - 48)) (j + 1) d.2 (by omega) (by rw [Int.pow_succ]; omega)
  rw [show j + 1 + l.length = j + (c :: l).length by simp only [List.length_cons]; omega] at this
  exact this
theorem p15 : (10 : Int) ^ 15 = 1000000000000000 := by decide
theorem cntf_is : ∀ (l : List UInt8) (n : Int) (j : Nat), 0 ≤ n → n < 10 ^ j → j + l.length ≤ 15 → dgs l = true → X.cntf l n = some (val l n) := by
 intro l
 induction l with
 | nil => intro n j _ _ _ _; rfl
 | cons c l ih =>
  intro n j h k hl d
  simp only [dgs, Bool.and_eq_true, decide_eq_true_eq] at d
  simp only [List.length_cons] at hl
  have b : 10 * n + ((c.toNat : Int) - 48) < 10 ^ (j + 1) := by rw [Int.pow_succ]; omega
  have b2 := pow_le' (show j + 1 ≤ 15 by omega)
  rw [p15] at b2
  show (if (c.toNat : Int) < 48 ∨ (c.toNat : Int) > 57 then none else X.cntf l _) = _
  rw [if_neg (by omega), if_neg (by omega)]
  exact ih _ (j + 1) (by omega) b (by omega) d.2
theorem cntf_no : ∀ (l : List UInt8) (n : Int), dgs l = false → X.cntf l n = none := by
 intro l
 induction l with
 | nil => intro n h; cases h
 | cons c l ih =>
  intro n h
  show (if (c.toNat : Int) < 48 ∨ (c.toNat : Int) > 57 then none else X.cntf l _) = _
  by_cases z : (c.toNat : Int) < 48 ∨ (c.toNat : Int) > 57
  ·rw [if_pos z]
  ·rw [if_neg z]
   apply ih
   simp only [dgs] at h
   rw [decide_eq_true (show 48 ≤ (c.toNat : Int) ∧ (c.toNat : Int) ≤ 57 by omega), Bool.true_and] at h
   exact h
theorem cntf_some : ∀ (l : List UInt8) (n : Int), dgs l = true → ∃ m, X.cntf l n = some m := by
 intro l
 induction l with
 | nil => intro n _; exact ⟨n, rfl⟩
 | cons c l ih =>
  intro n h
  simp only [dgs, Bool.and_eq_true, decide_eq_true_eq] at h
  show ∃ m, (if (c.toNat : Int) < 48 ∨ (c.toNat : Int) > 57 then none else X.cntf l _) = some m
  rw [if_neg (by omega)]
  exact ih _ h.2
def okd (s : ByteArray) (a b : Int) : Bool := dgs s.data.toList && (decide (a ≤ (s.size : Int)) && decide ((s.size : Int) ≤ b))
theorem sz (s : ByteArray) : s.data.toList.length = s.size := by rw [Array.length_toList]; rfl
theorem count_ok {s : ByteArray} {a b : Int} (hb : b ≤ 15) (h : okd s a b = true) : num_count.f s a b = some (val s.data.toList 0, true) := by
 unfold okd at h
 simp only [Bool.and_eq_true, decide_eq_true_eq] at h
 unfold num_count.f
 rw [cntf_is s.data.toList 0 0 (by omega) (by decide) (by rw [sz]; omega) h.1]
 simp only
 rw [decide_eq_true h.2.1, decide_eq_true h.2.2]
 rfl
theorem count_no {s : ByteArray} {a b : Int} (h : okd s a b = false) : ∃ n, num_count.f s a b = some (n, false) := by
 unfold num_count.f
 cases d : dgs s.data.toList with
 | false => rw [cntf_no _ _ d]; exact ⟨0, rfl⟩
 | true =>
  obtain ⟨m, hm⟩ := cntf_some _ 0 d
  rw [hm]
  unfold okd at h
  rw [d, Bool.true_and] at h
  exact ⟨m, by simp only [h]⟩
theorem bt_get {s : ByteArray} {i : Nat} (h : i < s.size) : bt s (i : Int) = ((s[i]'h).toNat : Int) := (bt_at s i h).symm
theorem rdigits_l {s : ByteArray} {a b : Int} (hs : s.size ≤ 140737488351232) : ∀ (m i : Nat), i + m = s.size → Ev (fun k => octavoref05_digits.l0 k s a b i) (dgs (s.data.toList.drop i) && (decide (a ≤ (s.size : Int)) && decide ((s.size : Int) ≤ b))) := by
 intro m
 induction m with
 | zero =>
  intro i e
  have : s.data.toList.drop i = [] := List.drop_eq_nil_of_le (by rw [sz]; omega)
  rw [this]
  refine E.succ (E.neg (by omega) (E.ite (fun c => E.now ?_) (fun c => E.now ?_)))
  ·rw [decide_eq_true (show a ≤ (s.size : Int) by omega)]; rfl
  ·rw [decide_eq_false (show ¬ a ≤ (s.size : Int) by omega)]; rfl
 | succ m ih =>
  intro i e
  have hi : i < s.size := by omega
  rw [X.drop_get s i hi]
  refine E.succ (E.pos (by omega) (E.pos (by omega) ?_))
  rw [bt_get hi, E.w64 (x := (i : Int) + 1) (by omega) (by omega)]
  refine E.ite (fun c => E.now ?_) (fun c => E.ite (fun c2 => E.now ?_) (fun c2 => E.is (ih (i + 1) (by omega)) ?_))
  ·simp only [dgs]; rw [decide_eq_false (by omega)]; rfl
  ·simp only [dgs]; rw [decide_eq_false (by omega)]; rfl
  ·simp only [dgs]; rw [decide_eq_true (show 48 ≤ ((s[i]'hi).toNat : Int) ∧ ((s[i]'hi).toNat : Int) ≤ 57 by omega)]; rfl
theorem rdigits_is {s : ByteArray} {a b : Int} (hs : s.size ≤ 140737488351232) : Ev (fun k => octavoref05_digits.f k s a b) (okd s a b) := by
 have := rdigits_l (a := a) (b := b) hs s.size 0 (by omega)
 exact this
def sg (neg : Bool) (n : Int) : Int × Bool := out (if neg = true then -n else n)
def fin (neg : Bool) (W R : ByteArray) (point : Bool) : Int × Bool :=
 if okd W 1 12 = true ∧ (point = true → okd R 1 4 = true) then sg neg (val W.data.toList 0 * 10000 + val R.data.toList 0 * 10 ^ (4 - R.size)) else (0, false)
theorem Parse_end {neg : Bool} {n m x : Int} (hn : 0 ≤ n) (kn : n < 1000000000000) : ∀ (r i : Nat), (i : Int) + r = x → x ≤ 4 → 0 ≤ m → m * 10 ^ r < 10000 → Ev (fun k => num_Parse.l0 k neg n m x i) (sg neg (n * 10000 + m * 10 ^ r)) := by
 intro r
 induction r generalizing m with
 | zero =>
  intro i e hx hm km
  rw [Int.pow_zero, Int.mul_one] at km ⊢
  refine E.succ (E.neg (by omega) ?_)
  rw [E.w64 (x := n * 10000) (by omega) (by omega), E.w64 (x := n * 10000 + m) (by omega) (by omega), E.w64 (x := -(n * 10000 + m)) (by omega) (by omega)]
  unfold sg
  refine E.ite (fun c => ?_) (fun c => ?_)
  ·rw [if_pos c, told_is]; exact Ev.now _
  ·rw [if_neg c, told_is]; exact Ev.now _
 | succ r ih =>
  intro i e hx hm km
  have pe : m * 10 ^ (r + 1) = m * 10 * 10 ^ r := by rw [Int.pow_succ, Int.mul_comm (10 ^ r) 10, Int.mul_assoc]
  rw [pe] at km ⊢
  have pp := pow_pos' r
  have mb : m * 10 ≤ m * 10 * 10 ^ r := by
   have := Int.mul_le_mul_of_nonneg_left pp (show 0 ≤ m * 10 by omega)
   omega
  refine E.succ (E.pos (by omega) ?_)
  rw [E.w64 (x := m * 10) (by omega) (by omega), E.w64 (x := (i : Int) + 1) (by omega) (by omega), show (i : Int) + 1 = ((i + 1 : Nat) : Int) by omega]
  exact ih (i + 1) (by omega) hx (by omega) km
theorem rval_l {neg : Bool} {Z : ByteArray} (hZ : Z.size ≤ 16) (d : dgs Z.data.toList = true) : ∀ (m i : Nat) (n : Int), i + m = Z.size → 0 ≤ n → n < 10 ^ i → Ev (fun k => octavoref05_Parse.l2 k neg n Z i) (sg neg (val (Z.data.toList.drop i) n)) := by
 have dd : ∀ i : Nat, dgs (Z.data.toList.drop i) = true := fun i => by
  have := dgs_append (Z.data.toList.take i) (Z.data.toList.drop i)
  rw [List.take_append_drop, d] at this
  cases h : dgs (Z.data.toList.drop i) with
  | true => rfl
  | false => rw [h, Bool.and_false] at this; cases this
 have p16 : (10 : Int) ^ 16 = 10000000000000000 := by decide
 intro m
 induction m with
 | zero =>
  intro i n e h k
  have : Z.data.toList.drop i = [] := List.drop_eq_nil_of_le (by rw [sz]; omega)
  rw [this]
  have pl := pow_le' (show i ≤ 16 by omega)
  rw [p16] at pl
  refine E.succ (E.neg (by omega) ?_)
  rw [E.w64 (x := -n) (by omega) (by omega)]
  show Ev _ (sg neg n)
  unfold sg
  refine E.ite (fun c => ?_) (fun c => ?_)
  ·rw [if_pos c, rout_is]; exact Ev.now _
  ·rw [if_neg c, rout_is]; exact Ev.now _
 | succ m ih =>
  intro i n e h k
  have hi : i < Z.size := by omega
  have di := dd i
  rw [X.drop_get Z i hi] at di ⊢
  simp only [dgs, Bool.and_eq_true, decide_eq_true_eq] at di
  have pl := pow_le' (show i ≤ 16 by omega)
  rw [p16] at pl
  refine E.succ (E.pos (by omega) (E.pos (by omega) ?_))
  rw [bt_get hi, show (((Z[i]'hi).toNat : Int) - 48) % 256 = ((Z[i]'hi).toNat : Int) - 48 by omega, E.w64 (x := 10 * n) (by omega) (by omega), E.w64 (x := 10 * n + (((Z[i]'hi).toNat : Int) - 48)) (by omega) (by omega), E.w64 (x := (i : Int) + 1) (by omega) (by omega), show (i : Int) + 1 = ((i + 1 : Nat) : Int) by omega]
  exact ih (i + 1) _ (by omega) (by omega) (by rw [Int.pow_succ]; omega)
theorem rParse_end {neg : Bool} {W : ByteArray} (hW : W.size ≤ 12) (dW : dgs W.data.toList = true) : ∀ (r : Nat) (R : ByteArray), R.size + r = 4 → dgs R.data.toList = true → Ev (fun k => octavoref05_Parse.l1 k neg W R) (sg neg (val W.data.toList 0 * 10000 + val R.data.toList 0 * 10 ^ r)) := by
 intro r
 induction r with
 | zero =>
  intro R e dR
  have sWR : (W ++ R).size = W.size + R.size := ByteArray.size_append
  refine E.succ (E.neg (by omega) (E.pos (by omega) ?_))
  have dWR : (W ++ R).data.toList = W.data.toList ++ R.data.toList := by rw [ByteArray.data_append, Array.toList_append]
  have v := rval_l (neg := neg) (Z := W ++ R) (by omega) (by rw [dWR, dgs_append, dW, dR]; rfl) (W ++ R).size 0 0 (by omega) (by omega) (by decide)
  rw [List.drop_zero, dWR, val_append, val_lin R.data.toList, sz, show R.size = 4 by omega] at v
  rw [Int.pow_zero, Int.mul_one]
  exact v
 | succ r ih =>
  intro R e dR
  have sR : (R ++ (⟨#[48]⟩ : ByteArray)).size = R.size + 1 := by rw [ByteArray.size_append]; rfl
  have tR : (R ++ (⟨#[48]⟩ : ByteArray)).data.toList = R.data.toList ++ [48] := by rw [ByteArray.data_append, Array.toList_append]
  have h := ih (R ++ (⟨#[48]⟩ : ByteArray)) (by omega) (by rw [tR, dgs_append, dR]; rfl)
  rw [tR, val_append] at h
  have e1 : val [48] (val R.data.toList 0) = val R.data.toList 0 * 10 := by
   show 10 * val R.data.toList 0 + (((48 : UInt8).toNat : Int) - 48) = _
   rw [show ((48 : UInt8).toNat : Int) = 48 from rfl]; omega
  rw [e1, Int.mul_assoc, Int.mul_comm 10 (10 ^ r), ← Int.pow_succ] at h
  exact E.succ (E.pos (by omega) (E.pos (by omega) h))
end Go.Proofs.YtllceoncpgebpaaGreatDoor.Nm
namespace Go.Proofs.YtllceoncpgebpaaGreatDoor.Nm
open Go.RowKit Go.Proofs.YtllceoncpgebpaaGreatDoor.P Go.Proofs.YtllceoncpgebpaaGreatDoorW.PrintWords Go.Proofs.YtllceoncpgebpaaGreatDoorW.PrintLast
set_option linter.unusedVariables false
set_option linter.unusedSimpArgs false
theorem idx_bd : ∀ (l : List UInt8) (c : UInt8), Lib.indexByte l c = -1 ∨ (0 ≤ Lib.indexByte l c ∧ Lib.indexByte l c < l.length) := by
 intro l c
 induction l with
 | nil => exact .inl rfl
 | cons b l ih =>
  show (if b == c then (0 : Int) else if Lib.indexByte l c == -1 then -1 else Lib.indexByte l c + 1) = -1 ∨ (0 ≤ (if b == c then (0 : Int) else if Lib.indexByte l c == -1 then -1 else Lib.indexByte l c + 1) ∧ (if b == c then (0 : Int) else if Lib.indexByte l c == -1 then -1 else Lib.indexByte l c + 1) < ((b :: l).length : Int))
  simp only [List.length_cons, beq_iff_eq]
  by_cases h : b = c
  ·rw [if_pos h]; omega
  ·rw [if_neg h]
   by_cases h2 : Lib.indexByte l c = -1
   ·rw [if_pos h2]; exact .inl rfl
   ·rw [if_neg h2]; omega
theorem idx_cons (b c : UInt8) (l : List UInt8) : Lib.indexByte (b :: l) c = if b = c then 0 else if Lib.indexByte l c = -1 then -1 else Lib.indexByte l c + 1 := by
 show (if b == c then (0 : Int) else if Lib.indexByte l c == -1 then -1 else Lib.indexByte l c + 1) = _
 simp only [beq_iff_eq]
def ng (s : ByteArray) : Bool := decide (0 < s.size ∧ bt s 0 = 45)
def body (s : ByteArray) : ByteArray := if ng s = true then s.extract 1 s.size else s
def mid (t : ByteArray) : Int := Lib.indexByte t.data.toList 46
def prs (s : ByteArray) : Int × Bool :=
 if 0 ≤ mid (body s) then fin (ng s) ((body s).extract 0 (mid (body s)).toNat) ((body s).extract (mid (body s) + 1).toNat (body s).size) true else fin (ng s) (body s) (⟨#[]⟩ : ByteArray) false
theorem u8_eq {a : UInt8} {n : Nat} (hn : n < 256) : (a.toNat : Int) = n ↔ a = UInt8.ofNat n := by
 constructor
 ·intro h
  apply UInt8.toNat_inj.1
  rw [UInt8.toNat_ofNat']
  omega
 ·intro h
  rw [h, UInt8.toNat_ofNat']
  omega
theorem cutp_is {s : ByteArray} (hs : s.size ≤ 140737488351232) : strings_CutPrefix.f s (⟨#[45]⟩ : ByteArray) = some (body s, ng s) := by
 have s1 : ((⟨#[45]⟩ : ByteArray).size : Int) = 1 := rfl
 have l1 : (⟨#[45]⟩ : ByteArray).toList = [45] := by decide +kernel
 have hp : stringslite_HasPrefix.f s (⟨#[45]⟩ : ByteArray) = some (ng s) := by
  unfold stringslite_HasPrefix.f ng
  rw [s1, l1]
  by_cases c : (s.size : Int) ≥ 1
  ·rw [if_pos c, if_pos (by omega), if_pos c]
   have h0 : 0 < s.size := by omega
   have e : (s.extract 0 ((1 : Int)).toNat).toList = [s[0]'h0] := by
    rw [ByteArray.toList_eq, ByteArray.data_extract, Array.toList_extract, show ((1 : Int)).toNat = 1 from rfl]
    have := X.drop_get s 0 h0
    rw [List.drop_zero] at this
    rw [this]
    rfl
   have b0 : bt s 0 = ((s[0]'h0).toNat : Int) := bt_get (i := 0) h0
   rw [e, b0]
   congr 1
   by_cases z : s[0]'h0 = 45
   ·rw [z]; simp [h0]
   ·have : ¬ (((s[0]'h0).toNat : Int) = 45) := fun h => z ((u8_eq (n := 45) (by omega)).1 h)
    rw [decide_eq_false (fun h => this h.2)]
    simp [z]
  ·rw [if_neg c, decide_eq_false (by omega)]
 unfold strings_CutPrefix.f stringslite_CutPrefix.f
 rw [hp]
 simp only [Option.bind_some]
 unfold body
 by_cases c : ng s = true
 ·rw [if_pos c, if_pos c, s1, if_pos (by omega), if_pos (by have := of_decide_eq_true c; omega), c]
  rfl
 ·rw [if_neg c, if_neg c, show ng s = false by simpa using c]
  rfl
theorem body_size {s : ByteArray} (hs : s.size ≤ 140737488351232) : (body s).size ≤ 140737488351232 := by
 unfold body
 split
 ·rw [ByteArray.size_extract]; omega
 ·exact hs
theorem cut_is {t : ByteArray} (ht : t.size ≤ 140737488351232) : Ev (fun k => strings_Cut.f k t (⟨#[46]⟩ : ByteArray)) (if 0 ≤ mid t then (t.extract 0 (mid t).toNat, t.extract (mid t + 1).toNat t.size, true) else (t, (⟨#[]⟩ : ByteArray), false)) := by
 have s1 : ((⟨#[46]⟩ : ByteArray).size : Int) = 1 := rfl
 have l1 : (⟨#[46]⟩ : ByteArray).toList = [46] := by decide +kernel
 have b1 : bt (⟨#[46]⟩ : ByteArray) 0 = 46 := by decide +kernel
 have ix : Ev (fun k => stringslite_Index.f k t (⟨#[46]⟩ : ByteArray)) (mid t) := by
  refine E.neg (by rw [s1]; omega) ?_
  rw [s1, l1]
  cases h : (([46] : List UInt8) == t.toList) with
  | true =>
   refine E.succ ?_
   simp only [stringslite_Index.j0]
   refine E.pos trivial (E.now ?_)
   have : t.data.toList = [46] := by rw [← ByteArray.toList_eq]; exact (beq_iff_eq.1 h).symm
   unfold mid
   rw [this]
   rfl
  | false =>
   refine E.succ ?_
   simp only [stringslite_Index.j0, b1]
   exact E.neg (by simp) (E.pos trivial (E.pos (by rw [s1]; omega) (E.bindn (a := mid t) rfl (Ev.now _))))
 have lt := idx_bd t.data.toList 46
 rw [sz] at lt
 unfold strings_Cut.f stringslite_Cut.f
 refine Ev.bind (a := (if 0 ≤ mid t then (t.extract 0 (mid t).toNat, t.extract (mid t + 1).toNat t.size, true) else (t, (⟨#[]⟩ : ByteArray), false))) (Ev.bind ix ?_) (Ev.now _)
 rw [s1]
 have lt' : mid t = -1 ∨ (0 ≤ mid t ∧ mid t < t.size) := lt
 refine E.ite (fun c => ?_) (fun c => ?_)
 ·rw [E.w64 (x := mid t + 1) (by omega) (by omega)]
  refine E.is ?_ (if_pos c).symm
  exact E.pos c (E.pos (by omega) (E.pos (by omega) (E.pos (by omega) (Ev.now _))))
 ·refine E.is ?_ (if_neg c).symm
  exact Ev.now _
theorem okd_sz {s : ByteArray} {a b : Int} (h : okd s a b = true) : dgs s.data.toList = true ∧ a ≤ s.size ∧ (s.size : Int) ≤ b := by
 unfold okd at h
 simpa using h
theorem val0 {s : ByteArray} (d : dgs s.data.toList = true) : 0 ≤ val s.data.toList 0 ∧ val s.data.toList 0 < 10 ^ s.size := by
 have := val_bd s.data.toList 0 0 d (by omega) (by decide)
 rw [Nat.zero_add, sz] at this
 exact this
theorem Parse_tail {neg : Bool} {W R : ByteArray} {n : Int} (dW : dgs W.data.toList = true) (hW : W.size ≤ 12) (dR : dgs R.data.toList = true) (hR : R.size ≤ 4) (hn : n = val W.data.toList 0) : Ev (fun k => num_Parse.j0 k neg R n (val R.data.toList 0) false) (sg neg (n * 10000 + val R.data.toList 0 * 10 ^ (4 - R.size))) := by
 have vW := val0 dW
 have vR := val0 dR
 have p12 : (10 : Int) ^ 12 = 1000000000000 := by decide
 have pw := pow_le' hW
 rw [p12] at pw
 refine E.succ ?_
 simp only [num_Parse.j0]
 rw [E.w64 (x := 4 - (R.size : Int)) (by omega) (by omega)]
 refine E.neg (by simp) (Parse_end (by omega) (by omega) (4 - R.size) 0 (by omega) (by omega) vR.1 ?_)
 have e : (10 : Int) ^ R.size * 10 ^ (4 - R.size) = 10000 := by
  rw [← Int.pow_add, show R.size + (4 - R.size) = 4 by omega]; rfl
 have := Int.mul_lt_mul_of_pos_right vR.2 (show (0 : Int) < 10 ^ (4 - R.size) by have := pow_pos' (4 - R.size); omega)
 omega
theorem Parse_is {s : ByteArray} (hs : s.size ≤ 140737488351232) : Ev (fun k => num_Parse.f k s) (prs s) := by
 have no : ∀ (b : Bool) (R : ByteArray) (x y : Int), Ev (fun k => num_Parse.j0 k b R x y true) (0, false) := fun b R x y => by
  refine E.succ ?_
  simp only [num_Parse.j0]
  exact E.pos trivial (Ev.now _)
 have bs := body_size hs
 refine E.bindn (cutp_is hs) (Ev.bind (cut_is bs) ?_)
 unfold prs
 generalize body s = t at *
 generalize ng s = b
 have key : ∀ (W R : ByteArray) (point : Bool), (point = false → R = (⟨#[]⟩ : ByteArray)) → Ev (fun k => (num_count.f W 1 12).bind fun bt115 => (num_count.f R 1 4).bind fun bt117 => if bt115.2 = true then (if point = true then num_Parse.j0 k b R bt115.1 bt117.1 (!bt117.2) else num_Parse.j0 k b R bt115.1 bt117.1 false) else num_Parse.j0 k b R bt115.1 bt117.1 true) (fin b W R point) := by
  intro W R point hp
  unfold fin
  cases hW : okd W 1 12 with
  | false =>
   obtain ⟨n, e⟩ := count_no hW
   rw [if_neg (fun h => by cases h.1)]
   cases hR : okd R 1 4 with
   | false =>
    obtain ⟨m, e2⟩ := count_no hR
    exact E.bindn e (E.bindn e2 (E.neg (by simp) (no _ _ _ _)))
   | true => exact E.bindn e (E.bindn (count_ok (by omega) hR) (E.neg (by simp) (no _ _ _ _)))
  | true =>
   have zW := okd_sz hW
   refine E.bindn (count_ok (by omega) hW) ?_
   cases point with
   | false =>
    have hR := hp rfl
    subst hR
    rw [if_pos ⟨rfl, fun h => by cases h⟩]
    refine E.bindn (a := (0, false)) rfl (E.pos (by rfl) (E.neg (by simp) ?_))
    exact Parse_tail (R := (⟨#[]⟩ : ByteArray)) zW.1 (by omega) rfl (by decide) rfl
   | true =>
    cases hR : okd R 1 4 with
    | false =>
     obtain ⟨m, e2⟩ := count_no hR
     rw [if_neg (fun h => by have := h.2 rfl; cases this)]
     refine E.bindn e2 (E.pos (by rfl) (E.pos (by rfl) ?_))
     exact no _ _ _ _
    | true =>
     have zR := okd_sz hR
     rw [if_pos ⟨rfl, fun _ => rfl⟩]
     refine E.bindn (count_ok (by omega) hR) (E.pos (by rfl) (E.pos (by rfl) ?_))
     exact Parse_tail zW.1 (by omega) zR.1 (by omega) rfl
 by_cases c : 0 ≤ mid t
 ·rw [if_pos c, if_pos c]
  exact key _ _ true (fun h => by cases h)
 ·rw [if_neg c, if_neg c]
  exact key _ _ false (fun _ => rfl)
theorem rParse_j3 {b : Bool} {W R : ByteArray} {point : Bool} (hs : W.size ≤ 140737488351232) (hs2 : R.size ≤ 140737488351232) (hp : point = false → R = (⟨#[]⟩ : ByteArray)) : Ev (fun k => octavoref05_Parse.j3 k b W R point) (fin b W R point) := by
 have no : Ev (fun k => octavoref05_Parse.j4 k b W R true) (0, false) := by
  refine E.succ ?_
  simp only [octavoref05_Parse.j4]
  exact E.pos trivial (Ev.now _)
 have yes : ∀ r, Ev (fun k => octavoref05_Parse.l1 k b W R) r → Ev (fun k => octavoref05_Parse.j4 k b W R false) r := fun r h => by
  refine E.succ ?_
  simp only [octavoref05_Parse.j4]
  exact E.neg (by simp) h
 refine E.succ (Ev.bind (rdigits_is hs) ?_)
 unfold fin
 cases hW : okd W 1 12 with
 | false =>
  rw [if_neg (fun h => by cases h.1)]
  exact E.neg (by simp) no
 | true =>
  have zW := okd_sz hW
  refine E.pos (by rfl) ?_
  cases point with
  | false =>
   have hR := hp rfl
   subst hR
   rw [if_pos ⟨rfl, fun h => by cases h⟩]
   exact E.neg (by simp) (yes _ (rParse_end (by omega) zW.1 4 (⟨#[]⟩ : ByteArray) (by decide) rfl))
  | true =>
   refine E.pos (by rfl) (Ev.bind (rdigits_is hs2) ?_)
   cases hR : okd R 1 4 with
   | false =>
    rw [if_neg (fun h => by have := h.2 rfl; cases this)]
    exact no
   | true =>
    have zR := okd_sz hR
    rw [if_pos ⟨rfl, fun _ => rfl⟩]
    exact yes _ (rParse_end (by omega) zW.1 (4 - R.size) R (by omega) zR.1)
theorem rParse_l0 {b : Bool} {t : ByteArray} {r : Int × Bool} (hs : t.size ≤ 140737488351232) : ∀ (m i : Nat), i + m = t.size →
  (if Lib.indexByte (t.data.toList.drop i) 46 = -1 then Ev (fun k => octavoref05_Parse.j3 k b t (⟨#[]⟩ : ByteArray) false) r else Ev (fun k => octavoref05_Parse.j3 k b (t.extract 0 ((i : Int) + Lib.indexByte (t.data.toList.drop i) 46).toNat) (t.extract ((i : Int) + Lib.indexByte (t.data.toList.drop i) 46 + 1).toNat t.size) true) r) → Ev (fun k => octavoref05_Parse.l0 k t b t (⟨#[]⟩ : ByteArray) false i) r := by
 intro m
 induction m with
 | zero =>
  intro i e h
  have : t.data.toList.drop i = [] := List.drop_eq_nil_of_le (by rw [sz]; omega)
  rw [this, if_pos (show Lib.indexByte [] 46 = -1 from rfl)] at h
  exact E.succ (E.neg (by omega) h)
 | succ m ih =>
  intro i e h
  have hi : i < t.size := by omega
  rw [X.drop_get t i hi, idx_cons] at h
  refine E.succ (E.pos (by omega) (E.pos (by omega) ?_))
  rw [E.w64 (x := (i : Int) + 1) (by omega) (by omega), bt_get hi]
  refine E.ite (fun c => ?_) (fun c => ?_)
  ·have c' : t[i]'hi = 46 := (u8_eq (n := 46) (by omega)).1 c
   rw [if_pos c', if_neg (by omega), Int.add_zero] at h
   exact E.pos (by omega) (E.pos (by omega) (E.pos (by omega) h))
  ·have c' : ¬ t[i]'hi = 46 := fun z => c ((u8_eq (n := 46) (by omega)).2 z)
   rw [if_neg c'] at h
   refine ih (i + 1) (by omega) ?_
   have lt := idx_bd (t.data.toList.drop (i + 1)) 46
   by_cases z : Lib.indexByte (t.data.toList.drop (i + 1)) 46 = -1
   ·rw [if_pos z]; rw [if_pos z, if_pos rfl] at h; exact h
   ·rw [if_neg z]; rw [if_neg z, if_neg (by omega)] at h
    rw [show ((i + 1 : Nat) : Int) + Lib.indexByte (t.data.toList.drop (i + 1)) 46 = (i : Int) + (Lib.indexByte (t.data.toList.drop (i + 1)) 46 + 1) by omega]
    exact h
theorem rParse_is {s : ByteArray} (hs : s.size ≤ 140737488351232) : Ev (fun k => octavoref05_Parse.f k s) (prs s) := by
 have bs := body_size hs
 have fromT : ∀ (t : ByteArray) (b : Bool), t.size ≤ 140737488351232 → Ev (fun k => octavoref05_Parse.j1 k t b) (if 0 ≤ mid t then fin b (t.extract 0 (mid t).toNat) (t.extract (mid t + 1).toNat t.size) true else fin b t (⟨#[]⟩ : ByteArray) false) := fun t b ht => by
  refine E.succ (rParse_l0 ht t.size 0 (by omega) ?_)
  rw [List.drop_zero]
  show (if mid t = -1 then _ else _)
  have lt : mid t = -1 ∨ (0 ≤ mid t ∧ mid t < t.data.toList.length) := idx_bd t.data.toList 46
  by_cases z : mid t = -1
  ·rw [if_pos z, if_neg (by omega)]
   exact rParse_j3 ht (by decide) (fun _ => rfl)
  ·rw [if_neg z, if_pos (by omega)]
   show Ev (fun k => octavoref05_Parse.j3 k b (t.extract 0 (((0 : Nat) : Int) + mid t).toNat) (t.extract (((0 : Nat) : Int) + mid t + 1).toNat t.size) true) _
   rw [show ((0 : Nat) : Int) + mid t = mid t by omega]
   exact rParse_j3 (by rw [ByteArray.size_extract]; omega) (by rw [ByteArray.size_extract]; omega) (fun h => by cases h)
 have all := fromT (body s) (ng s) bs
 have j0 : Ev (fun k => octavoref05_Parse.j0 k s (ng s)) (prs s) := by
  unfold prs
  refine E.succ ?_
  unfold body at all ⊢
  by_cases c : ng s = true
  ·rw [if_pos c] at all ⊢
   rw [c] at all ⊢
   simp only [octavoref05_Parse.j0]
   have := of_decide_eq_true c
   exact E.pos trivial (E.pos (by omega) all)
  ·rw [if_neg c] at all ⊢
   rw [show ng s = false by simpa using c] at all ⊢
   simp only [octavoref05_Parse.j0]
   exact E.neg (by simp) all
 refine E.ite (fun c => E.pos (by omega) ?_) (fun c => ?_)
 ·have : (bt s 0 == 45) = ng s := by
   unfold ng
   by_cases z : bt s 0 = 45
   ·rw [decide_eq_true ⟨by omega, z⟩, z]; rfl
   ·rw [decide_eq_false (fun h => z h.2)]; simp [z]
  rw [this]
  exact j0
 ·have : ng s = false := decide_eq_false (fun h => by omega)
  rw [this] at j0
  exact j0
end Go.Proofs.YtllceoncpgebpaaGreatDoor.Nm
namespace Go.Proofs.YtllceoncpgebpaaGreatDoor.Pure
open Go.RowKit Go.Proofs.YtllceoncpgebpaaGreatDoor.P Go.Proofs.YtllceoncpgebpaaGreatDoor.Nm Go.Proofs.YtllceoncpgebpaaGreatDoorW.PrintWords Go.Proofs.YtllceoncpgebpaaGreatDoorW.PrintLast
set_option linter.unusedVariables false
set_option linter.unusedSimpArgs false
def by8 (L : List Int) : List UInt8 := L.map fun n => UInt8.ofNat n.toNat
theorem son_bytes (L : List Int) : (strOfNums L).data.toList = by8 L := rfl
def dgi (L : List Int) : Prop := ∀ x ∈ L, 48 ≤ x ∧ x ≤ 57
theorem u8n {x : Int} (h : 0 ≤ x) (k : x ≤ 255) : ((UInt8.ofNat x.toNat).toNat : Int) = x := by
 rw [UInt8.toNat_ofNat']; omega
theorem by_dgs : ∀ (L : List Int), dgi L → dgs (by8 L) = true := by
 intro L
 induction L with
 | nil => intro _; rfl
 | cons x L ih =>
  intro h
  have hx := h x (by simp)
  show (decide (48 ≤ ((UInt8.ofNat x.toNat).toNat : Int) ∧ ((UInt8.ofNat x.toNat).toNat : Int) ≤ 57) && dgs (by8 L)) = true
  rw [u8n (by omega) (by omega), decide_eq_true (by omega), ih (fun y hy => h y (by simp [hy]))]
  rfl
theorem dig_dgi : ∀ (m : Nat) (u : Int) (L : List Int), 0 ≤ u → dgi L → dgi (dig m u L) := by
 have one : ∀ (u : Int) (L : List Int), 0 ≤ u → dgi L → dgi ((48 + u % 10) :: L) := fun u L h d x hx => by
  rcases List.mem_cons.1 hx with e | e
  ·omega
  ·exact d x e
 intro m
 induction m with
 | zero => intro u L h d; exact one u L h d
 | succ m ih =>
  intro u L h d
  unfold dig
  split
  ·exact one u L h d
  ·exact ih _ _ (by omega) (one u L h d)
theorem dig_val : ∀ (m : Nat) (u : Int) (L : List Int), 0 ≤ u → u < 10 ^ (m + 1) → val (by8 (dig m u L)) 0 = val (by8 L) u := by
 have one : ∀ (u : Int) (L : List Int) (n : Int), 0 ≤ u → val (by8 ((48 + u % 10) :: L)) n = val (by8 L) (10 * n + u % 10) := fun u L n h => by
  show val (by8 L) (10 * n + (((UInt8.ofNat (48 + u % 10).toNat).toNat : Int) - 48)) = _
  rw [u8n (by omega) (by omega), show 48 + u % 10 - 48 = u % 10 by omega]
 intro m
 induction m with
 | zero =>
  intro u L h k
  show val (by8 ((48 + u % 10) :: L)) 0 = _
  rw [one u L 0 h, show 10 * 0 + u % 10 = u by omega]
 | succ m ih =>
  intro u L h k
  rw [ten_succ] at k
  unfold dig
  by_cases c : u / 10 = 0
  ·rw [if_pos c, one u L 0 h, show 10 * 0 + u % 10 = u by omega]
  ·rw [if_neg c, ih _ _ (by omega) (by omega), one u L _ h, show 10 * (u / 10) + u % 10 = u by omega]
theorem dig_len2 : ∀ (m j : Nat) (u : Int) (L : List Int), 0 ≤ u → u < 10 ^ (j + 1) → (dig m u L).length ≤ L.length + j + 1 := by
 intro m
 induction m with
 | zero => intro j u L h k; simp [dig]
 | succ m ih =>
  intro j u L h k
  unfold dig
  by_cases c : u / 10 = 0
  ·rw [if_pos c]; simp only [List.length_cons]; omega
  ·rw [if_neg c]
   cases j with
   | zero => exfalso; have : u < 10 := k; omega
   | succ j =>
    rw [ten_succ] at k
    have := ih j (u / 10) ((48 + u % 10) :: L) (by omega) (by omega)
    simp only [List.length_cons] at this
    omega
theorem idx_none : ∀ (L : List Int) (R : List UInt8), dgi L → Lib.indexByte (by8 L ++ R) 46 = if Lib.indexByte R 46 = -1 then -1 else Lib.indexByte R 46 + L.length := by
 intro L R
 induction L with
 | nil => intro _; show Lib.indexByte R 46 = if Lib.indexByte R 46 = -1 then -1 else Lib.indexByte R 46 + 0; split <;> omega
 | cons x L ih =>
  intro h
  have hx := h x (by simp)
  have i := ih (fun y hy => h y (by simp [hy]))
  show Lib.indexByte (UInt8.ofNat x.toNat :: (by8 L ++ R)) 46 = _
  rw [idx_cons, if_neg (fun e => by have := u8n (x := x) (by omega) (by omega); rw [e] at this; have e2 : ((46 : UInt8).toNat : Int) = 46 := rfl; omega), i]
  have ge := Lib.indexByte_ge R 46
  simp only [List.length_cons]
  by_cases z : Lib.indexByte R 46 = -1
  ·rw [if_pos z, if_pos z, if_pos rfl]
  ·rw [if_neg z, if_neg z, if_neg (by omega)]; omega
theorem trim_back : ∀ (n : Nat) (x y : ByteArray), x.size = n → n ≤ 100 → Ev (fun k => strings_trimRightByte.l0 k x 48) y → ∃ j : Nat, x.data.toList = y.data.toList ++ List.replicate j 48 := by
 intro n
 induction n with
 | zero =>
  intro x y hx hn t
  have := E.uniq t (E.succ (E.neg (by omega) (Ev.now x)))
  exact ⟨0, by rw [this]; simp⟩
 | succ n ih =>
  intro x y hx hn t
  have w : wrap64 ((x.size : Int) - 1) = n := by rw [E.w64 (by omega) (by omega)]; omega
  by_cases c : bt x n = 48
  ·have sz' : (x.extract 0 n).size = n := by rw [ByteArray.size_extract]; omega
   obtain ⟨y', y1, _⟩ := trim_l n (x.extract 0 n) sz' (by omega)
   have t2 : Ev (fun k => strings_trimRightByte.l0 k x 48) y' := by
    refine E.succ (E.pos (by omega) ?_)
    rw [w]
    refine E.pos (by omega) (E.pos (by omega) (E.pos c (E.pos (by omega) ?_)))
    rw [show ((n : Int)).toNat = n by omega]
    exact y1
   have e := E.uniq t t2
   subst e
   obtain ⟨j, hj⟩ := ih (x.extract 0 n) y sz' (by omega) y1
   refine ⟨j + 1, ?_⟩
   have hi : n < x.size := by omega
   have e1 : x.data.toList = (x.extract 0 n).data.toList ++ x.data.toList.drop n := by
    rw [ByteArray.data_extract, Array.toList_extract]
    simp
   have e2 : x.data.toList.drop n = [48] := by
    rw [X.drop_get x n hi, List.drop_eq_nil_of_le (by rw [sz]; omega), (u8_eq (n := 48) (by omega)).1 ((bt_get hi).symm.trans c)]
    rfl
   rw [e1, e2, hj, List.append_assoc, List.replicate_succ']
  ·have t2 : Ev (fun k => strings_trimRightByte.l0 k x 48) x := by
    refine E.succ (E.pos (by omega) ?_)
    rw [w]
    exact E.pos (by omega) (E.pos (by omega) (E.neg c (Ev.now _)))
   have e := E.uniq t t2
   exact ⟨0, by rw [e]; simp⟩
theorem val_rep : ∀ (j : Nat) (n : Int), val (List.replicate j 48) n = n * 10 ^ j := by
 intro j
 induction j with
 | zero => intro n; simp [val]
 | succ j ih =>
  intro n
  rw [List.replicate_succ]
  show val (List.replicate j 48) (10 * n + (((48 : UInt8).toNat : Int) - 48)) = _
  rw [ih, show ((48 : UInt8).toNat : Int) = 48 from rfl, show 10 * n + (48 - 48) = n * 10 by omega, Int.mul_assoc, ← Int.pow_succ']
theorem ext_drop (s : ByteArray) (a : Nat) : (s.extract a s.size).data.toList = s.data.toList.drop a := by
 rw [ByteArray.data_extract, Array.toList_extract]
 have : (s.data.toList.drop a).length ≤ s.size - a := by rw [List.length_drop, sz]; omega
 rw [show (List.extract s.data.toList a s.size) = (s.data.toList.drop a).take (s.size - a) from rfl, List.take_of_length_le this]
theorem ext_take (s : ByteArray) (b : Nat) : (s.extract 0 b).data.toList = s.data.toList.take b := by
 rw [ByteArray.data_extract, Array.toList_extract]
 rw [show (List.extract s.data.toList 0 b) = (s.data.toList.drop 0).take (b - 0) from rfl, List.drop_zero, Nat.sub_zero]
theorem head_bt {s : ByteArray} {c : UInt8} {l : List UInt8} (h : s.data.toList = c :: l) : 0 < s.size ∧ bt s 0 = (c.toNat : Int) := by
 have h0 : 0 < s.size := by rw [← sz, h]; simp
 have e := X.drop_get s 0 h0
 rw [List.drop_zero, h] at e
 have e1 := (List.cons.inj e).1
 refine ⟨h0, ?_⟩
 rw [e1]
 exact bt_get (i := 0) h0
theorem body_yes {s : ByteArray} {l : List UInt8} (h : s.data.toList = 45 :: l) : ng s = true ∧ (body s).data.toList = l := by
 obtain ⟨h0, hb⟩ := head_bt h
 have n : ng s = true := decide_eq_true ⟨h0, by rw [hb]; rfl⟩
 refine ⟨n, ?_⟩
 unfold body
 rw [if_pos n, ext_drop, h]
 rfl
theorem body_no {s : ByteArray} {c : UInt8} {l : List UInt8} (h : s.data.toList = c :: l) (hc : (c.toNat : Int) ≠ 45) : ng s = false ∧ body s = s := by
 obtain ⟨h0, hb⟩ := head_bt h
 have n : ng s = false := decide_eq_false (fun z => hc (hb.symm.trans z.2))
 refine ⟨n, ?_⟩
 unfold body
 rw [if_neg (by rw [n]; simp)]
theorem prs_of {s : ByteArray} {neg : Bool} {D : List Int} {T : List UInt8} {u r : Int} (hn : ng s = neg) (hb : (body s).data.toList = by8 D ++ (if T = [] then [] else 46 :: T)) (dD : dgi D) (l1 : 1 ≤ D.length) (l2 : D.length ≤ 12) (vD : val (by8 D) 0 = u)
  (dT : dgs T = true) (lT : T.length ≤ 4) (vT : val T 0 * 10 ^ (4 - T.length) = r) : prs s = sg neg (u * 10000 + r) := by
 have lD : (by8 D).length = D.length := by simp [by8]
 have hm : mid (body s) = if T = [] then -1 else (D.length : Int) := by
  unfold mid
  rw [hb, idx_none D _ dD]
  by_cases z : T = []
  ·rw [if_pos z, if_pos z, if_pos (show Lib.indexByte [] 46 = -1 from rfl)]
  ·rw [if_neg z, if_neg z, show Lib.indexByte (46 :: T) 46 = 0 by rw [idx_cons, if_pos rfl], if_neg (by omega)]; omega
 unfold prs
 rw [hn, hm]
 generalize body s = B at *
 by_cases z : T = []
 ·subst z
  rw [if_pos rfl] at hb ⊢
  rw [List.append_nil] at hb
  rw [if_neg (by omega)]
  have sB : B.size = D.length := by rw [← sz, hb, lD]
  unfold fin
  rw [if_pos ⟨by unfold okd; rw [hb, by_dgs D dD, sB, decide_eq_true (show (1 : Int) ≤ D.length by omega), decide_eq_true (show (D.length : Int) ≤ 12 by omega)]; rfl, fun h => by cases h⟩, hb, vD]
  congr 1
  rw [← vT]
  rfl
 ·rw [if_neg z] at hb ⊢
  rw [if_pos (by omega), show ((D.length : Nat) : Int).toNat = D.length by omega, show ((D.length : Int) + 1).toNat = D.length + 1 by omega]
  have eW : (B.extract 0 D.length).data.toList = by8 D := by rw [ext_take, hb, ← lD, List.take_left]
  have eR : (B.extract (D.length + 1) B.size).data.toList = T := by
   rw [ext_drop, hb, ← lD, ← List.drop_drop, List.drop_left]
   rfl
  have sW : (B.extract 0 D.length).size = D.length := by rw [← sz, eW, lD]
  have sR : (B.extract (D.length + 1) B.size).size = T.length := by rw [← sz, eR]
  have tl : 1 ≤ T.length := by cases T with | nil => exact absurd rfl z | cons _ _ => simp
  unfold fin
  rw [if_pos ⟨by unfold okd; rw [eW, by_dgs D dD, sW, decide_eq_true (show (1 : Int) ≤ D.length by omega), decide_eq_true (show (D.length : Int) ≤ 12 by omega)]; rfl, fun _ => by unfold okd; rw [eR, dT, sR, decide_eq_true (show (1 : Int) ≤ T.length by omega), decide_eq_true (show (T.length : Int) ≤ 4 by omega)]; rfl⟩, eW, eR, sR, vD, vT]
theorem back {n : Int} {s x y : ByteArray} (g : good n) (hx : x = strOfNums [48 + ab n % 10000 / 1000, 48 + ab n % 10000 / 100 % 10, 48 + ab n % 10000 / 10 % 10, 48 + ab n % 10000 % 10]) (ty : Ev (fun k => strings_trimRightByte.l0 k x 48) y)
  (hs : s = dot (strOfNums ((if n < 0 then [45] else []) ++ dig 15 (ab n / 10000) [])) y) : prs s = (n, true) := by
 have ba := ab_bd g
 have p8 : (10 : Int) ^ (7 + 1) = 100000000 := by decide
 have p16 : (10 : Int) ^ (15 + 1) = 10000000000000000 := by decide
 have dx : dgi [48 + ab n % 10000 / 1000, 48 + ab n % 10000 / 100 % 10, 48 + ab n % 10000 / 10 % 10, 48 + ab n % 10000 % 10] := fun z hz => by
  simp only [List.mem_cons, List.mem_nil_iff, or_false] at hz
  rcases hz with e | e | e | e <;> omega
 have lx : x.data.toList = by8 [48 + ab n % 10000 / 1000, 48 + ab n % 10000 / 100 % 10, 48 + ab n % 10000 / 10 % 10, 48 + ab n % 10000 % 10] := by rw [hx]; rfl
 have vx : val x.data.toList 0 = ab n % 10000 := by
  rw [lx]
  show val [] (10 * (10 * (10 * (10 * 0 + (((UInt8.ofNat (48 + ab n % 10000 / 1000).toNat).toNat : Int) - 48)) + (((UInt8.ofNat (48 + ab n % 10000 / 100 % 10).toNat).toNat : Int) - 48)) + (((UInt8.ofNat (48 + ab n % 10000 / 10 % 10).toNat).toNat : Int) - 48)) + (((UInt8.ofNat (48 + ab n % 10000 % 10).toNat).toNat : Int) - 48)) = _
  rw [u8n (by omega) (by omega), u8n (by omega) (by omega), u8n (by omega) (by omega), u8n (by omega) (by omega)]
  show 10 * (10 * (10 * (10 * 0 + _) + _) + _) + _ = _
  omega
 obtain ⟨j, hj⟩ := trim_back 4 x y (by rw [hx, son_size]; rfl) (by omega) ty
 have len : y.data.toList.length + j = 4 := by
  have := congrArg List.length hj
  rw [lx] at this
  simp [by8] at this
  simp
  omega
 have dy : dgs y.data.toList = true := by
  have := by_dgs _ dx
  rw [← lx, hj, dgs_append] at this
  cases h : dgs y.data.toList with
  | true => rfl
  | false => rw [h] at this; cases this
 have vy : val y.data.toList 0 * 10 ^ (4 - y.data.toList.length) = ab n % 10000 := by
  rw [← vx, hj, val_append, val_rep, show 4 - y.data.toList.length = j by omega]
 have dD := dig_dgi 15 (ab n / 10000) [] (by omega) (fun z hz => by cases hz)
 have lD := dig_len 15 (ab n / 10000) []
 have lD2 := dig_len2 15 7 (ab n / 10000) [] (by omega) (by rw [p8]; omega)
 have vD : val (by8 (dig 15 (ab n / 10000) [])) 0 = ab n / 10000 := dig_val 15 (ab n / 10000) [] (by omega) (by rw [p16]; omega)
 simp only [List.length_nil] at lD lD2
 have ls : s.data.toList = by8 (if n < 0 then [45] else []) ++ (by8 (dig 15 (ab n / 10000) []) ++ (if y.data.toList = [] then [] else 46 :: y.data.toList)) := by
  have b8 : by8 ((if n < 0 then [45] else []) ++ dig 15 (ab n / 10000) []) = by8 (if n < 0 then [45] else []) ++ by8 (dig 15 (ab n / 10000) []) := by simp [by8]
  rw [hs]
  unfold dot
  by_cases z : y.data.toList = []
  ·have : y.size = 0 := by rw [← sz, z]; rfl
   rw [if_pos this, if_pos z, son_bytes, b8, List.append_nil]
  ·have : ¬ y.size = 0 := fun e => z (List.length_eq_zero_iff.1 (by rw [sz]; exact e))
   rw [if_neg this, if_neg z, ByteArray.data_append, Array.toList_append, son_bytes, b8, ByteArray.data_append, Array.toList_append, List.append_assoc]
   rfl
 have e : prs s = sg (decide (n < 0)) (ab n / 10000 * 10000 + ab n % 10000) := by
  by_cases z : n < 0
  ·rw [if_pos z] at ls
   obtain ⟨h1, h2⟩ := body_yes (s := s) ls
   rw [decide_eq_true z]
   exact prs_of h1 h2 dD (by omega) (by omega) vD dy (by omega) vy
  ·rw [if_neg z] at ls
   have ls2 : s.data.toList = by8 (dig 15 (ab n / 10000) []) ++ (if y.data.toList = [] then [] else 46 :: y.data.toList) := ls
   rw [decide_eq_false z]
   cases hD : dig 15 (ab n / 10000) [] with
   | nil => rw [hD] at lD; simp at lD
   | cons d D =>
    have hd := dD d (by rw [hD]; simp)
    obtain ⟨h1, h2⟩ := body_no (s := s) (c := UInt8.ofNat d.toNat) (by rw [ls2, hD]; rfl) (by rw [u8n (by omega) (by omega)]; omega)
    exact prs_of h1 (by rw [h2]; exact ls2) dD (by omega) (by omega) vD dy (by omega) vy
 rw [e, show ab n / 10000 * 10000 + ab n % 10000 = ab n by omega]
 have gn := g
 unfold good at gn
 unfold sg
 by_cases z : n < 0
 ·have : ab n = -n := if_pos z
  rw [decide_eq_true z, if_pos rfl, this, show - -n = n by omega, out_yes' g]
 ·have : ab n = n := if_neg z
  rw [decide_eq_false z, this, show (if false = true then -n else n) = n from rfl, out_yes' g]
end Go.Proofs.YtllceoncpgebpaaGreatDoor.Pure
namespace Go.Proofs.YtllceoncpgebpaaGreatDoor.Vl
open Go.RowKit Go.Proofs.YtllceoncpgebpaaGreatDoor.P Go.Proofs.YtllceoncpgebpaaGreatDoor.Nm Go.Proofs.YtllceoncpgebpaaGreatDoorW.PrintWords Go.Proofs.YtllceoncpgebpaaGreatDoorW.PrintLast
set_option linter.unusedVariables false
set_option linter.unusedSimpArgs false
noncomputable def prt (n : Int) : ByteArray := if h : -9223372036854775808 ≤ n ∧ n ≤ 9223372036854775807 then Classical.choose (Print_is n h.1 h.2) else (⟨#[]⟩ : ByteArray)
theorem Prt_is {n : Int} (h : -9223372036854775808 ≤ n) (k : n ≤ 9223372036854775807) : Ev (fun j => num_Print.f j n) (prt n) ∧ Ev (fun j => octavoref05_Print.f j n) (prt n) ∧ (good n → prs (prt n) = (n, true)) := by
 have e : prt n = Classical.choose (Print_is n h k) := dif_pos ⟨h, k⟩
 obtain ⟨a, b, y, ⟨x, hx, ty⟩, hp⟩ := Classical.choose_spec (Print_is n h k)
 rw [← e] at a b hp
 exact ⟨a, b, fun g => Pure.back g hx ty hp⟩
theorem prt_sz {n : Int} (h : -9223372036854775808 ≤ n) (k : n ≤ 9223372036854775807) : (prt n).size ≤ 30 := by
 have e : prt n = Classical.choose (Print_is n h k) := dif_pos ⟨h, k⟩
 obtain ⟨a, b, y, ⟨x, hx, ty⟩, hp⟩ := Classical.choose_spec (Print_is n h k)
 rw [← e] at hp
 have p16 : (10 : Int) ^ (15 + 1) = 10000000000000000 := by decide
 obtain ⟨y', t1, t2, _⟩ := trim_l 4 x (by rw [hx, son_size]; rfl) (by omega)
 have ey := E.uniq ty t1
 subst ey
 have d := dig_len 15 (ab n / 10000) []
 have l1 : (if n < 0 then ([45] : List Int) else []).length ≤ 1 := by split <;> simp
 have l2 : (strOfNums ((if n < 0 then [45] else []) ++ dig 15 (ab n / 10000) [])).size ≤ 17 := by
  rw [son_size, List.length_append]
  simp only [List.length_nil] at d
  omega
 have l3 : x.size = 4 := by rw [hx, son_size]; rfl
 rw [hp]
 unfold dot
 split
 ·omega
 ·rw [ByteArray.size_append, ByteArray.size_append]
  have : (⟨#[46]⟩ : ByteArray).size = 1 := rfl
  omega
def up (s : ByteArray) : ByteArray := X.mapS X.gUpper s
def lo (s : ByteArray) : ByteArray := X.mapS X.gLower s
theorem Upper_is {s : ByteArray} (h : s.size ≤ 140737488351232) : value_Upper.f s = some (up s) := if_pos (by omega)
theorem rUpper_is {s : ByteArray} (h : s.size ≤ 140737488351232) : octavoref06_Upper.f s = some (up s) := if_pos (by omega)
def wrd (s : ByteArray) : Int := if (up s).toList = ([84, 82, 85, 69] : List UInt8) then 1 else if (up s).toList = ([70, 65, 76, 83, 69] : List UInt8) then 0 else -1
theorem wrd_or (s : ByteArray) : wrd s = 1 ∨ wrd s = 0 ∨ wrd s = -1 := by
 unfold wrd
 split
 ·simp
 ·split <;> simp
theorem Truth_is {s : ByteArray} (h : s.size ≤ 140737488351232) : octavoref06_Truth.f s = some (wrd s) := by
 unfold octavoref06_Truth.f wrd
 rw [rUpper_is h]
 simp only [Option.bind_some]
 split
 ·rfl
 ·split <;> rfl
theorem word_is {s : ByteArray} (h : s.size ≤ 140737488351232) : value_word.f s = some (decide (wrd s = 1), decide (wrd s ≥ 0)) := by
 unfold value_word.f wrd
 rw [Upper_is h]
 simp only [Option.bind_some]
 split
 ·rfl
 ·split <;> rfl
def q (s : ByteArray) : Bool := decide (0 < s.size ∧ bt s 0 = 39)
def tnum (a b : Int) (s : ByteArray) : Int × Int :=
 if a = 0 then (0, 0) else if a = 1 then (b, 0) else if a = 3 then (if b = 0 then (0, 0) else (10000, 0)) else if a = 2 then (if (prs s).2 = true then ((prs s).1, 0) else (0, 2)) else if a = 4 then (0, b) else (0, 2)
noncomputable def txt (a b : Int) (s : ByteArray) : ByteArray :=
 if a = 1 then prt b else if a = 2 then s else if a = 3 then (if b = 0 then (⟨#[70, 65, 76, 83, 69]⟩ : ByteArray) else (⟨#[84, 82, 85, 69]⟩ : ByteArray)) else if a = 4 then (if 1 ≤ b then (if b ≤ 8 then rdOf ByteArray.empty X.errL b else (⟨#[]⟩ : ByteArray)) else (⟨#[]⟩ : ByteArray)) else (⟨#[]⟩ : ByteArray)
noncomputable def ttxt (a b : Int) (s : ByteArray) : ByteArray × Int := if a = 4 then ((⟨#[]⟩ : ByteArray), b) else (txt a b s, 0)
def tboo (a b : Int) (s : ByteArray) : Bool × Int :=
 if a = 0 then (false, 0) else if a = 1 then ((b != 0), 0) else if a = 2 then (if wrd s ≥ 0 then (decide (wrd s = 1), 0) else (false, 2)) else if a = 3 then ((b != 0), 0) else if a = 4 then (false, b) else (false, 2)
def gdv (a b : Int) (s : ByteArray) : Prop :=
 (a = 0 ∧ b = 0 ∧ s.size = 0) ∨ (a = 1 ∧ good b ∧ s.size = 0) ∨ (a = 2 ∧ b = 0 ∧ s.size ≤ 255) ∨ (a = 3 ∧ (b = 0 ∨ b = 1) ∧ s.size = 0) ∨ (a = 4 ∧ 1 ≤ b ∧ b ≤ 8 ∧ s.size = 0)
instance (a b : Int) (s : ByteArray) : Decidable (gdv a b s) := by unfold gdv good; infer_instance
end Go.Proofs.YtllceoncpgebpaaGreatDoor.Vl
namespace Go.Proofs.YtllceoncpgebpaaGreatDoor.Dt
open Go.RowKit Go.Proofs.YtllceoncpgebpaaGreatDoor.P Go.Proofs.YtllceoncpgebpaaGreatDoorW.PrintWords Go.Proofs.YtllceoncpgebpaaGreatDoorW.PrintLast
set_option linter.unusedVariables false
set_option linter.unusedSimpArgs false
def leap (y : Int) : Bool := decide (y % 4 = 0 ∧ (y % 100 ≠ 0 ∨ y % 400 = 0))
def ml (l : Bool) (m : Int) : Int := if m = 2 then (if l then 29 else 28) else if m = 4 ∨ m = 6 ∨ m = 9 ∨ m = 11 then 30 else 31
def last (y m : Int) : Int := if m < 1 ∨ 12 < m then 0 else ml (leap y) m
def cm (l : Bool) (m : Int) : Int := (if m ≤ 1 then 0 else if m = 2 then 31 else if m = 3 then 59 else if m = 4 then 90 else if m = 5 then 120 else if m = 6 then 151 else if m = 7 then 181 else if m = 8 then 212 else if m = 9 then 243 else if m = 10 then 273 else if m = 11 then 304 else if m = 12 then 334 else 365) + (if l ∧ 3 ≤ m then 1 else 0)
def ah (y : Int) : Int := 365 * (y - 1900) + ((y - 1) / 4 - (y - 1) / 100 + (y - 1) / 400 - 460)
def dn (y m d : Int) : Int := ah y + cm (leap y) m + d
def Is (a y m d : Int) : Prop := 1900 ≤ y ∧ y ≤ 9999 ∧ 1 ≤ m ∧ m ≤ 12 ∧ 1 ≤ d ∧ d ≤ last y m ∧ dn y m d = a
theorem m12 {m : Int} (h : 1 ≤ m) (k : m ≤ 12) : m = 1 ∨ m = 2 ∨ m = 3 ∨ m = 4 ∨ m = 5 ∨ m = 6 ∨ m = 7 ∨ m = 8 ∨ m = 9 ∨ m = 10 ∨ m = 11 ∨ m = 12 := by omega
theorem last_in {y m : Int} (h : 1 ≤ m) (k : m ≤ 12) : last y m = ml (leap y) m := if_neg (by omega)
theorem last_bd (y m : Int) (h : 1 ≤ m) (k : m ≤ 12) : 28 ≤ last y m ∧ last y m ≤ 31 := by
 rw [last_in h k]; unfold ml; split <;> (try split) <;> omega
theorem cm_next (l : Bool) {m : Int} (h : 1 ≤ m) (k : m ≤ 12) : cm l (m + 1) = cm l m + ml l m := by
 rcases m12 h k with e | e | e | e | e | e | e | e | e | e | e | e <;> subst e <;> cases l <;> rfl
theorem cm_mono (l : Bool) {m m' : Int} (h : 1 ≤ m) (k : m' ≤ 12) (hm : m < m') : cm l m + ml l m ≤ cm l m' := by
 rcases m12 h (by omega) with e | e | e | e | e | e | e | e | e | e | e | e <;> subst e <;> rcases m12 (by omega) k with e | e | e | e | e | e | e | e | e | e | e | e <;> subst e <;> cases l <;> first | decide | omega
theorem cm_bd (l : Bool) {m : Int} (h : 1 ≤ m) (k : m ≤ 12) : 0 ≤ cm l m ∧ cm l m + ml l m ≤ 365 + (if l then 1 else 0) := by
 rcases m12 h k with e | e | e | e | e | e | e | e | e | e | e | e <;> subst e <;> cases l <;> decide
theorem leap_t {y : Int} (h : leap y = true) : y % 4 = 0 ∧ (y % 100 ≠ 0 ∨ y % 400 = 0) := of_decide_eq_true h
theorem leap_f {y : Int} (h : leap y = false) : ¬ (y % 4 = 0 ∧ (y % 100 ≠ 0 ∨ y % 400 = 0)) := of_decide_eq_false h
theorem ah_next (y : Int) : ah (y + 1) = ah y + 365 + (if leap y then 1 else 0) := by
 unfold ah
 cases h : leap y with
 | true => have := leap_t h; simp; omega
 | false => have := leap_f h; simp; omega
theorem ah_mono {y y' : Int} (h : y < y') : ah y + 365 + (if leap y then 1 else 0) ≤ ah y' := by
 rw [← ah_next]
 unfold ah
 omega
theorem ah_bd {y : Int} (h : 1900 ≤ y) (k : y ≤ 10000) : 0 ≤ ah y ∧ ah y ≤ 2958464 := by unfold ah; omega
theorem Is.uniq {a y m d y' m' d' : Int} (h : Is a y m d) (k : Is a y' m' d') : y = y' ∧ m = m' ∧ d = d' := by
 obtain ⟨h1, h2, h3, h4, h5, h6, h7⟩ := h
 obtain ⟨k1, k2, k3, k4, k5, k6, k7⟩ := k
 rw [last_in h3 h4] at h6
 rw [last_in k3 k4] at k6
 unfold dn at h7 k7
 have b := cm_bd (leap y) h3 h4
 have b' := cm_bd (leap y') k3 k4
 have ey : y = y' := by
  rcases Int.lt_trichotomy y y' with e | e | e
  ·have := ah_mono e; omega
  ·exact e
  ·have := ah_mono e; omega
 subst ey
 have em : m = m' := by
  rcases Int.lt_trichotomy m m' with e | e | e
  ·have := cm_mono (leap y) h3 k4 e; omega
  ·exact e
  ·have := cm_mono (leap y) k3 h4 e; omega
 subst em
 exact ⟨rfl, rfl, by omega⟩
theorem Is.range {a y m d : Int} (h : Is a y m d) : 1 ≤ a ∧ a ≤ 2958464 := by
 obtain ⟨h1, h2, h3, h4, h5, h6, h7⟩ := h
 rw [last_in h3 h4] at h6
 unfold dn at h7
 have b := cm_bd (leap y) h3 h4
 have c := ah_bd h1 (by omega)
 have d := ah_next y
 have e := ah_bd (y := y + 1) (by omega) (by omega)
 omega
theorem Leap_is (y : Int) : date_Leap.f y = some (leap y) := by
 unfold date_Leap.f leap
 have e4 : (Int.tmod y 4 = 0) ↔ (y % 4 = 0) := by rw [← Int.dvd_iff_tmod_eq_zero, Int.dvd_iff_emod_eq_zero]
 have e100 : (Int.tmod y 100 = 0) ↔ (y % 100 = 0) := by rw [← Int.dvd_iff_tmod_eq_zero, Int.dvd_iff_emod_eq_zero]
 have e400 : (Int.tmod y 400 = 0) ↔ (y % 400 = 0) := by rw [← Int.dvd_iff_tmod_eq_zero, Int.dvd_iff_emod_eq_zero]
 by_cases h : y % 100 = 0
 ·rw [if_pos (e100.mpr h)]
  congr 1
  rw [Bool.eq_iff_iff, beq_iff_eq, e400, decide_eq_true_iff]
  omega
 ·rw [if_neg (fun z => h (e100.mp z))]
  congr 1
  rw [Bool.eq_iff_iff, beq_iff_eq, e4, decide_eq_true_iff]
  omega
theorem rLeap_is (y : Int) : octavoref07_Leap.f y = some (leap y) := by
 unfold octavoref07_Leap.f leap
 have e4 : (Int.tmod y 4 = 0) ↔ (y % 4 = 0) := by rw [← Int.dvd_iff_tmod_eq_zero, Int.dvd_iff_emod_eq_zero]
 have e100 : (Int.tmod y 100 = 0) ↔ (y % 100 = 0) := by rw [← Int.dvd_iff_tmod_eq_zero, Int.dvd_iff_emod_eq_zero]
 have e400 : (Int.tmod y 400 = 0) ↔ (y % 400 = 0) := by rw [← Int.dvd_iff_tmod_eq_zero, Int.dvd_iff_emod_eq_zero]
 by_cases h4 : y % 4 = 0
 ·rw [if_pos (e4.mpr h4)]
  by_cases h : y % 100 = 0
  ·rw [if_pos (e100.mpr h)]
   congr 1
   rw [Bool.eq_iff_iff, beq_iff_eq, e400, decide_eq_true_iff]
   omega
  ·rw [if_neg (fun z => h (e100.mp z))]
   congr 1
   symm
   rw [decide_eq_true_iff]
   omega
 ·rw [if_neg (fun z => h4 (e4.mp z))]
  congr 1
  symm
  rw [decide_eq_false_iff_not]
  omega
theorem Last_is (y m : Int) : Ev (fun k => date_Last.f k y m) (last y m) := by
 unfold date_Last.f
 by_cases h : m < 1
 ·have hl : last y m = 0 := if_pos (.inl h)
  rw [hl]
  refine E.pos h (E.succ ?_)
  simp only [date_Last.j0]
  exact E.pos (by simp [h]) (Ev.now _)
 ·refine E.neg h (E.succ ?_)
  simp only [date_Last.j0]
  by_cases h' : 12 < m
  ·have hl : last y m = 0 := if_pos (.inr h')
   rw [hl]
   exact E.pos (by simp [h']) (Ev.now _)
  ·rw [last_in (by omega) (by omega)]
   refine E.neg (by simp [h']) ?_
   rcases m12 (m := m) (by omega) (by omega) with e | e | e | e | e | e | e | e | e | e | e | e <;> subst e
   case inr.inl =>
    refine E.pos rfl (E.bindn (Leap_is y) ?_)
    unfold ml
    cases leap y
    ·exact E.neg (by decide) (E.pos (by unfold wrap64; decide) (E.pos (by unfold wrap64; decide) (E.now (by unfold wrap64; rfl))))
    ·exact Ev.now _
   all_goals
    exact E.neg (by decide) (E.pos (by unfold wrap64; decide) (E.pos (by unfold wrap64; decide) (E.now (by unfold wrap64; rfl))))
theorem rLast_is (y m : Int) : Ev (fun k => octavoref07_Last.f k y m) (last y m) := by
 unfold octavoref07_Last.f
 by_cases h : m < 1
 ·have hl : last y m = 0 := if_pos (.inl h)
  rw [hl]
  refine E.pos h (E.succ ?_)
  simp only [octavoref07_Last.j0]
  exact E.pos (by simp) (Ev.now _)
 ·refine E.neg h (E.succ ?_)
  simp only [octavoref07_Last.j0]
  by_cases h' : 12 < m
  ·have hl : last y m = 0 := if_pos (.inr h')
   rw [hl]
   exact E.pos (by simp [h']) (Ev.now _)
  ·rw [last_in (by omega) (by omega)]
   refine E.neg (by simp [h']) ?_
   rcases m12 (m := m) (by omega) (by omega) with e | e | e | e | e | e | e | e | e | e | e | e <;> subst e
   case inr.inl =>
    refine E.pos rfl (E.bindn (rLeap_is y) ?_)
    unfold ml
    cases leap y
    ·exact E.neg (by decide) (E.pos (by decide) (E.pos (by decide) (E.now rfl)))
    ·exact Ev.now _
   all_goals
    exact E.neg (by decide) (E.pos (by decide) (E.pos (by decide) (E.now rfl)))
theorem td {x : Int} (n : Int) (h : 0 ≤ x) : Int.tdiv x n = x / n := Int.tdiv_eq_ediv_of_nonneg h
theorem civil_is {y m d : Int} (h1 : 1900 ≤ y) (h2 : y ≤ 9999) (h3 : 1 ≤ m) (h4 : m ≤ 12) (h5 : 1 ≤ d) (h6 : d ≤ 31) : date_civil.f y m d = some (dn y m d + 3) := by
 unfold date_civil.f
 rcases m12 h3 h4 with e | e | e | e | e | e | e | e | e | e | e | e <;> subst e
 all_goals
  first | rw [if_pos (by decide)] | rw [if_neg (by decide)]
  congr 1
  simp (disch := omega) only [E.w64, td]
  have q := ah_next y
  unfold dn cm
  unfold ah at q ⊢
  rw [show y + 1 - 1 = y from by omega] at q
  generalize (y - 1) / 4 = a4 at q ⊢
  generalize (y - 1) / 100 = a100 at q ⊢
  generalize (y - 1) / 400 = a400 at q ⊢
  generalize y / 4 = b4 at q ⊢
  generalize y / 100 = b100 at q ⊢
  generalize y / 400 = b400 at q ⊢
  cases h : leap y <;> simp [h] at q ⊢ <;> omega
end Go.Proofs.YtllceoncpgebpaaGreatDoor.Dt
namespace Go.Proofs.YtllceoncpgebpaaGreatDoor.Dt
open Go.RowKit Go.Proofs.YtllceoncpgebpaaGreatDoor.P Go.Proofs.YtllceoncpgebpaaGreatDoorW.PrintWords Go.Proofs.YtllceoncpgebpaaGreatDoorW.PrintLast
set_option linter.unusedVariables false
set_option linter.unusedSimpArgs false
def day (y m d : Int) : Int × Bool := if 1900 ≤ y ∧ y ≤ 9999 ∧ 1 ≤ d ∧ d ≤ last y m then (dn y m d, true) else (0, false)
theorem last_out {y m d : Int} (h : 1 ≤ d) (k : d ≤ last y m) : 1 ≤ m ∧ m ≤ 12 ∧ d ≤ 31 := by
 have e : 1 ≤ m ∧ m ≤ 12 := by
  by_cases c : m < 1 ∨ 12 < m
  ·rw [last, if_pos c] at k; omega
  ·omega
 have := last_bd y m e.1 e.2
 omega
theorem dn_bd {y m d : Int} (h1 : 1900 ≤ y) (h2 : y ≤ 9999) (h3 : 1 ≤ d) (h4 : d ≤ last y m) : 1 ≤ dn y m d ∧ dn y m d ≤ 2958464 := by
 obtain ⟨a, b, _⟩ := last_out h3 h4
 exact Is.range (y := y) (m := m) (d := d) ⟨h1, h2, a, b, h3, h4, rfl⟩
theorem day_yes {y m d : Int} (h1 : 1900 ≤ y) (h2 : y ≤ 9999) (h3 : 1 ≤ d) (h4 : d ≤ last y m) : day y m d = (dn y m d, true) := if_pos ⟨h1, h2, h3, h4⟩
theorem day_no {y m d : Int} (h : ¬ (1900 ≤ y ∧ y ≤ 9999 ∧ 1 ≤ d ∧ d ≤ last y m)) : day y m d = (0, false) := if_neg h
theorem Day_is (y m d : Int) : Ev (fun k => date_Day.f k y m d) (day y m d) := by
 unfold date_Day.f
 refine E.ite (fun h => ?_) (fun h1 => E.ite (fun h => ?_) (fun h2 => E.ite (fun h => ?_) (fun h3 => ?_)))
 ·rw [day_no (by omega)]
  refine E.succ ?_
  simp only [date_Day.j0]
  exact E.pos trivial (Ev.now _)
 ·rw [day_no (by omega)]
  refine E.succ ?_
  simp only [date_Day.j0]
  exact E.pos trivial (Ev.now _)
 ·rw [day_no (by omega)]
  refine E.succ ?_
  simp only [date_Day.j0]
  exact E.pos trivial (Ev.now _)
 refine Ev.bind (Last_is y m) (E.succ ?_)
 simp only [date_Day.j0]
 by_cases h4 : last y m < d
 ·rw [day_no (by omega)]
  exact E.pos (by simp [h4]) (Ev.now _)
 ·obtain ⟨a, b, c⟩ := last_out (y := y) (m := m) (d := d) (by omega) (by omega)
  have e := dn_bd (y := y) (m := m) (d := d) (by omega) (by omega) (by omega) (by omega)
  refine E.neg (by simp [h4]) (E.bindn (civil_is (by omega) (by omega) a b (by omega) c) (E.bindn (civil_is (y := 1900) (m := 1) (d := 1) (by omega) (by omega) (by omega) (by omega) (by omega) (by omega)) (E.now ?_)))
  have e1 : dn 1900 1 1 = 1 := by decide
  rw [day_yes (by omega) (by omega) (by omega) (by omega), e1]
  simp (disch := omega) only [E.w64]
  simp only [Prod.mk.injEq, and_true]
  omega
theorem ahead_is {y : Int} (h : 1 ≤ y) (k : y ≤ 100000) : octavoref07_ahead.f y = some (ah y) := by
 unfold octavoref07_ahead.f ah
 congr 1
 simp (disch := omega) only [E.w64, td]
def fst (y m : Int) : Int := ah y + cm (leap y) m
theorem fst_bd {y m : Int} (h1 : 1900 ≤ y) (h2 : y ≤ 9999) (h3 : 1 ≤ m) (h4 : m ≤ 12) : 0 ≤ fst y m ∧ fst y m ≤ 2958464 := by
 have := Is.range (y := y) (m := m) (d := 1) (a := dn y m 1) ⟨h1, h2, h3, h4, by omega, by have := last_bd y m h3 h4; omega, rfl⟩
 unfold dn at this
 unfold fst
 omega
theorem first_loop {y m : Int} (h1 : 1900 ≤ y) (h2 : y ≤ 9999) (h4 : m ≤ 12) : ∀ (n : Nat) (j : Int), 1 ≤ j → m - j = n → Ev (fun k => octavoref07_first.l0 k y m (fst y j) j) (fst y m) := by
 intro n
 induction n with
 | zero =>
  intro j hj hn
  have : j = m := by omega
  subst this
  exact E.succ (E.neg (by omega) (Ev.now _))
 | succ n ih =>
  intro j hj hn
  refine E.succ (E.pos (by omega) (Ev.bind (rLast_is y j) ?_))
  have a := fst_bd h1 h2 hj (by omega)
  have b := last_bd y j hj (by omega)
  have c : fst y (j + 1) = fst y j + last y j := by
   unfold fst
   rw [cm_next _ hj (by omega), last_in hj (by omega)]
   omega
  simp (disch := omega) only [E.w64]
  rw [← c]
  exact ih (j + 1) (by omega) (by omega)
theorem first_is {y m : Int} (h1 : 1900 ≤ y) (h2 : y ≤ 9999) (h3 : 1 ≤ m) (h4 : m ≤ 12) : Ev (fun k => octavoref07_first.f k y m) (fst y m) := by
 unfold octavoref07_first.f
 refine E.bindn (ahead_is (by omega) (by omega)) ?_
 have := first_loop h1 h2 h4 (m - 1).toNat 1 (by omega) (by omega)
 have e : fst y 1 = ah y := by unfold fst; cases leap y <;> simp [cm]
 rw [e] at this
 exact this
theorem rDay_is (y m d : Int) : Ev (fun k => octavoref07_Day.f k y m d) (day y m d) := by
 unfold octavoref07_Day.f
 refine E.ite (fun h => ?_) (fun h1 => E.ite (fun h => ?_) (fun h2 => E.ite (fun h => ?_) (fun h3 => ?_)))
 ·rw [day_no (by omega)]; exact Ev.now _
 ·rw [day_no (by omega)]; exact Ev.now _
 ·rw [day_no (by omega)]; exact Ev.now _
 refine Ev.bind (rLast_is y m) (E.ite (fun h => ?_) (fun h4 => ?_))
 ·rw [day_no (by omega)]
  exact Ev.now _
 ·obtain ⟨a, b, c⟩ := last_out (y := y) (m := m) (d := d) (by omega) (by omega)
  have e := fst_bd (y := y) (m := m) (by omega) (by omega) a b
  refine Ev.bind (first_is (by omega) (by omega) a b) (E.now ?_)
  rw [day_yes (by omega) (by omega) (by omega) (by omega)]
  simp (disch := omega) only [E.w64]
  rfl
theorem good_is (a : Int) : date_good.f a = some (decide (1 ≤ a ∧ a ≤ 2958464)) := by
 unfold date_good.f
 by_cases h : a ≥ 1
 ·rw [if_pos h]
  congr 1
  simp
  omega
 ·rw [if_neg h]
  congr 1
  symm
  simp
  omega
theorem ymonths {y a : Int} (h1 : 1900 ≤ y) (h2 : y ≤ 9999) (h5 : a ≤ ah (y + 1)) : ∀ (n : Nat) (m : Int), 1 ≤ m → m ≤ 12 → fst y m < a → 12 - m = n → ∃ m' d, Is a y m' d ∧ Ev (fun k => date_Parts.l1 k y m (a - fst y m)) (y, m', d, true) := by
 intro n
 have hA := ah_bd h1 (by omega : y ≤ 10000)
 have hB := ah_bd (y := y + 1) (by omega) (by omega)
 induction n with
 | zero =>
  intro m h3 h4 hf hn
  have : m = 12 := by omega
  subst this
  have l := last_in (y := y) h3 h4
  have nx := ah_next y
  have e : a - fst y 12 ≤ last y 12 := by
   rw [l]; unfold fst; cases h : leap y <;> simp [h, cm, ml] at nx ⊢ <;> omega
  refine ⟨12, a - fst y 12, ⟨h1, h2, h3, h4, by omega, e, by unfold dn fst; omega⟩, E.succ (Ev.bind (Last_is y 12) (E.neg (by omega) (Ev.now _)))⟩
 | succ n ih =>
  intro m h3 h4 hf hn
  have a1 := fst_bd h1 h2 h3 h4
  have b := last_bd y m h3 h4
  by_cases c : a - fst y m ≤ last y m
  ·exact ⟨m, a - fst y m, ⟨h1, h2, h3, h4, by omega, c, by unfold dn fst; omega⟩, E.succ (Ev.bind (Last_is y m) (E.neg (by omega) (Ev.now _)))⟩
  ·have e : fst y (m + 1) = fst y m + last y m := by
    unfold fst
    rw [cm_next _ h3 (by omega), last_in h3 (by omega)]
    omega
   obtain ⟨m', d, hi, hv⟩ := ih (m + 1) (by omega) (by omega) (by omega) (by omega)
   refine ⟨m', d, hi, E.succ (Ev.bind (Last_is y m) (E.pos (by omega) (Ev.bind (Last_is y m) ?_)))⟩
   simp (disch := omega) only [E.w64]
   rw [show a - fst y m - last y m = a - fst y (m + 1) from by omega]
   exact hv
theorem years {a : Int} (h6 : 1 ≤ a) (h7 : a ≤ 2958464) : ∀ (n : Nat) (y : Int), 1900 ≤ y → y ≤ 9999 → ah y < a → 9999 - y = n → ∃ y' m' d, Is a y' m' d ∧ Ev (fun k => date_Parts.l0 k a y 1) (y', m', d, true) := by
 intro n
 have dn1 : ∀ y, dn y 1 1 = ah y + 1 := fun y => by unfold dn; cases leap y <;> simp [cm]
 have f1 : ∀ y, fst y 1 = ah y := fun y => by unfold fst; cases leap y <;> simp [cm]
 have l1 : ∀ y, last y 1 = 31 := fun y => rfl
 induction n with
 | zero =>
  intro y h1 h2 hf hn
  have : y = 9999 := by omega
  subst this
  have hA : ah 9999 = 2958099 := by decide
  have hB : ah 10000 = 2958464 := by decide
  obtain ⟨m', d, hi, hv⟩ := ymonths (y := 9999) (a := a) (by omega) (by omega) (by show a ≤ ah 10000; omega) 11 1 (by omega) (by omega) (by rw [f1]; omega) (by omega)
  refine ⟨9999, m', d, hi, E.succ ?_⟩
  simp only [date_Parts.l0]
  rw [E.w64 (x := 9999 + 1) (by omega) (by omega)]
  have q := Day_is 10000 1 1
  rw [show day 10000 1 1 = (0, false) from by unfold day; rw [if_neg (by omega)]] at q
  have q2 := Day_is 9999 1 1
  rw [day_yes (by omega) (by omega) (by omega) (by rw [l1]; omega), dn1] at q2
  refine Ev.bind q (E.neg (by decide) (Ev.bind q2 ?_))
  simp (disch := omega) only [E.w64]
  rw [f1] at hv
  rw [show a - (ah 9999 + 1) + 1 = a - ah 9999 from by omega]
  exact hv
 | succ n ih =>
  intro y h1 h2 hf hn
  have nx := ah_next y
  have b1 := ah_bd h1 (by omega : y ≤ 10000)
  have b2 := ah_bd (y := y + 1) (by omega) (by omega)
  have q := Day_is (y + 1) 1 1
  rw [day_yes (by omega) (by omega) (by omega) (by rw [l1]; omega), dn1] at q
  have q2 := Day_is y 1 1
  rw [day_yes (by omega) (by omega) (by omega) (by rw [l1]; omega), dn1] at q2
  by_cases c : a ≤ ah (y + 1)
  ·obtain ⟨m', d, hi, hv⟩ := ymonths (y := y) (a := a) (by omega) (by omega) c 11 1 (by omega) (by omega) (by rw [f1]; omega) (by omega)
   refine ⟨y, m', d, hi, E.succ ?_⟩
   simp only [date_Parts.l0]
   rw [E.w64 (x := y + 1) (by omega) (by omega)]
   refine Ev.bind q (E.pos rfl (E.pos (by show a < ah (y + 1) + 1; omega) (Ev.bind q2 ?_)))
   simp (disch := omega) only [E.w64]
   rw [f1] at hv
   rw [show a - (ah y + 1) + 1 = a - ah y from by omega]
   exact hv
  ·obtain ⟨y', m', d, hi, hv⟩ := ih (y + 1) (by omega) (by omega) (by omega) (by omega)
   refine ⟨y', m', d, hi, E.succ ?_⟩
   simp only [date_Parts.l0]
   rw [E.w64 (x := y + 1) (by omega) (by omega)]
   exact Ev.bind q (E.pos rfl (E.neg (by show ¬ a < ah (y + 1) + 1; omega) hv))
theorem Parts_ex {a : Int} (h6 : 1 ≤ a) (h7 : a ≤ 2958464) : ∃ y m d, Is a y m d ∧ Ev (fun k => date_Parts.f k a) (y, m, d, true) := by
 have hq : ah (1900 + a / 366) < a := by unfold ah; omega
 obtain ⟨y, m, d, hi, hv⟩ := years h6 h7 (9999 - (1900 + a / 366)).toNat (1900 + a / 366) (by omega) (by omega) hq (by omega)
 refine ⟨y, m, d, hi, ?_⟩
 unfold date_Parts.f
 refine E.bindn (good_is a) (E.pos (by simp; omega) ?_)
 simp (disch := omega) only [E.w64, td]
 exact hv
theorem Parts_is {a y m d : Int} (h : Is a y m d) : Ev (fun k => date_Parts.f k a) (y, m, d, true) := by
 obtain ⟨y', m', d', hi, hv⟩ := Parts_ex h.range.1 h.range.2
 obtain ⟨rfl, rfl, rfl⟩ := hi.uniq h
 exact hv
theorem Is_ex {a : Int} (h6 : 1 ≤ a) (h7 : a ≤ 2958464) : ∃ y m d, Is a y m d := by
 obtain ⟨y, m, d, hi, _⟩ := Parts_ex h6 h7
 exact ⟨y, m, d, hi⟩
end Go.Proofs.YtllceoncpgebpaaGreatDoor.Dt
namespace Go.Proofs.YtllceoncpgebpaaGreatDoor.Dt
open Go.RowKit Go.Proofs.YtllceoncpgebpaaGreatDoor.P Go.Proofs.YtllceoncpgebpaaGreatDoorW.PrintWords Go.Proofs.YtllceoncpgebpaaGreatDoorW.PrintLast
set_option linter.unusedVariables false
set_option linter.unusedSimpArgs false
theorem fst1 (y : Int) : fst y 1 = ah y := by unfold fst; cases leap y <;> simp [cm]
theorem fst_next {y m : Int} (h : 1 ≤ m) (k : m ≤ 12) : fst y (m + 1) = fst y m + last y m := by
 unfold fst
 rw [cm_next _ h k, last_in h k]
 omega
theorem rmonths {a y m d : Int} (h : Is a y m d) : ∀ (n : Nat) (j : Int), 1 ≤ j → j ≤ m → m - j = n → Ev (fun k => octavoref07_Parts.l1 k a y j) (y, m, d, true) := by
 obtain ⟨h1, h2, h3, h4, h5, h6, h7⟩ := h
 have e : fst y m + d = a := h7
 intro n
 induction n with
 | zero =>
  intro j hj hm hn
  have : j = m := by omega
  subst this
  have a1 := fst_bd h1 h2 h3 h4
  have b := last_bd y j h3 h4
  have fin : Ev (fun k => (octavoref07_first.f k y j).bind fun t166 => (some (y, j, wrap64 (a - t166), true))) (y, j, d, true) := by
   refine Ev.bind (first_is h1 h2 h3 h4) (E.now ?_)
   rw [E.w64 (by omega) (by omega)]
   simp only [Prod.mk.injEq, and_true, true_and]
   omega
  refine E.succ (E.ite (fun c => ?_) (fun c => fin))
  rw [E.w64 (x := j + 1) (by omega) (by omega)]
  have nx := fst_next (y := y) h3 (by omega)
  exact Ev.bind (first_is h1 h2 (by omega) (by omega)) (E.neg (by omega) fin)
 | succ n ih =>
  intro j hj hm hn
  refine E.succ (E.pos (by omega) ?_)
  rw [E.w64 (x := j + 1) (by omega) (by omega)]
  have mono : fst y (j + 1) ≤ fst y m := by
   by_cases c : j + 1 = m
   ·rw [c]; omega
   ·have := cm_mono (leap y) (m := j + 1) (m' := m) (by omega) h4 (by omega)
    have b := last_bd y (j + 1) (by omega) (by omega)
    rw [last_in (by omega) (by omega)] at b
    unfold fst
    omega
  exact Ev.bind (first_is h1 h2 (by omega) (by omega)) (E.pos (by omega) (ih (j + 1) (by omega) (by omega) (by omega)))
theorem ryears {a y m d : Int} (h : Is a y m d) : ∀ (n : Nat) (lo hi : Int), 1900 ≤ lo → hi ≤ 9999 → lo ≤ y → y ≤ hi → (hi - lo).toNat ≤ n → Ev (fun k => octavoref07_Parts.l0 k a lo hi) (y, m, d, true) := by
 have hh := h
 obtain ⟨h1, h2, h3, h4, h5, h6, h7⟩ := h
 have b := cm_bd (leap y) h3 h4
 have nx := ah_next y
 rw [last_in h3 h4] at h6
 unfold dn at h7
 intro n
 induction n with
 | zero =>
  intro lo hi hl hh' ha hb _
  have : lo = y := by omega
  subst this
  exact E.succ (E.neg (by omega) (rmonths hh (m - 1).toNat 1 (by omega) (by omega) (by omega)))
 | succ n ih =>
  intro lo hi hl hh' ha hb hn
  refine E.succ (E.ite (fun c => ?_) (fun c => ?_))
  ·simp (disch := omega) only [E.w64, td]
   refine E.bindn (ahead_is (by omega) (by omega)) (E.ite (fun c2 => ?_) (fun c2 => ?_))
   ·refine ih _ _ (by omega) (by omega) ?_ (by omega) (by omega)
    by_cases e : y < (lo + hi + 1) / 2
    ·have := ah_mono e; omega
    ·omega
   ·refine ih _ _ (by omega) (by omega) (by omega) ?_ (by omega)
    by_cases e : y ≤ (lo + hi + 1) / 2 - 1
    ·omega
    ·exfalso
     by_cases e2 : y = (lo + hi + 1) / 2
     ·rw [← e2] at c2; omega
     ·have := ah_mono (y := (lo + hi + 1) / 2) (y' := y) (by omega); omega
  ·have : lo = y := by omega
   subst this
   exact rmonths hh (m - 1).toNat 1 (by omega) (by omega) (by omega)
theorem rParts_is {a y m d : Int} (h : Is a y m d) : Ev (fun k => octavoref07_Parts.f k a) (y, m, d, true) := by
 have r := h.range
 unfold octavoref07_Parts.f
 refine E.neg (by omega) (E.succ ?_)
 simp only [octavoref07_Parts.j0]
 exact E.neg (by simp; omega) (ryears h 8099 1900 9999 (by omega) (by omega) h.1 h.2.1 (by omega))
theorem tm (x : Int) (n : Int) (_ : 0 < n) : (0 ≤ x → Int.tmod x n = x % n) ∧ (x < 0 → Int.tmod x n = - ((-x) % n) ∧ Int.tdiv x n = - ((-x) / n)) := by
 refine ⟨fun h => Int.tmod_eq_emod_of_nonneg h, fun h => ?_⟩
 have e : x = -(-x) := by omega
 constructor
 ·rw [e, Int.neg_tmod, Int.tmod_eq_emod_of_nonneg (by omega)]; simp
 ·rw [e, Int.neg_tdiv, Int.tdiv_eq_ediv_of_nonneg (by omega)]; simp
theorem carried_is {y m : Int} (h1 : -1000000 ≤ y) (h2 : y ≤ 1000000) (h3 : -1000000 ≤ m) (h4 : m ≤ 1000000) : date_carried.f y m = some (y + (m - 1) / 12, (m - 1) % 12 + 1) := by
 unfold date_carried.f
 rw [E.w64 (x := m - 1) (by omega) (by omega)]
 have t := tm (m - 1) 12 (by omega)
 by_cases c : 0 ≤ m - 1
 ·rw [t.1 c, td _ c, if_neg (by omega)]
  simp (disch := omega) only [E.w64]
  simp only [Option.some.injEq, Prod.mk.injEq, true_and]
  omega
 ·obtain ⟨t1, t2⟩ := t.2 (by omega)
  rw [t1, t2]
  by_cases c2 : -(-(m - 1) % 12) < 0
  ·rw [if_pos c2]
   simp (disch := omega) only [E.w64]
   simp only [Option.some.injEq, Prod.mk.injEq]
   omega
  ·rw [if_neg c2]
   simp (disch := omega) only [E.w64]
   simp only [Option.some.injEq, Prod.mk.injEq]
   omega
def mon (y m d n : Int) (e : Bool) : Int × Bool :=
 let y' := y + (m + n - 1) / 12; let m' := (m + n - 1) % 12 + 1
 if e ∨ last y' m' < d then day y' m' (last y' m') else day y' m' d
theorem Months_is {a y m d n : Int} (e : Bool) (h : Is a y m d) (h1 : -100000 ≤ n) (h2 : n ≤ 100000) : Ev (fun k => date_Months.f k a n e) (mon y m d n e) := by
 have g := h
 obtain ⟨g1, g2, g3, g4, g5, g6, g7⟩ := g
 unfold date_Months.f
 refine Ev.bind (Parts_is h) (E.pos rfl (E.neg (by omega) (E.succ ?_)))
 simp only [date_Months.j0]
 refine E.neg (by simp; omega) ?_
 rw [E.w64 (x := m + n) (by omega) (by omega)]
 refine E.bindn (carried_is (by omega) (by omega) (by omega) (by omega)) (Ev.bind (Last_is _ _) ?_)
 unfold mon
 cases e with
 | true => exact E.pos rfl (Ev.bind (Day_is _ _ _) (E.now (by simp)))
 | false =>
  refine E.neg (by simp) (Ev.bind (Day_is _ _ _) (E.now ?_))
  simp only [Bool.false_eq_true, false_or, mn]
  split <;> rfl
theorem Months_far {a y m d n : Int} (e : Bool) (h : Is a y m d) (k : n < -100000 ∨ 100000 < n) : Ev (fun k => date_Months.f k a n e) (0, false) := by
 unfold date_Months.f
 refine Ev.bind (Parts_is h) (E.pos rfl ?_)
 by_cases c : n < -100000
 ·refine E.pos c (E.succ ?_)
  simp only [date_Months.j0]
  exact E.pos trivial (Ev.now _)
 ·refine E.neg c (E.succ ?_)
  simp only [date_Months.j0]
  exact E.pos (by simp; omega) (Ev.now _)
theorem rm1 (e : Bool) {d : Int} : ∀ (n : Nat) (y m : Int), -1000000 ≤ y → y ≤ 1000000 → 1 ≤ m → m ≤ 1000000 → m + y ≤ 1000000 → m.toNat ≤ n → Ev (fun k => octavoref07_Months.l1 k e y m d) (if e ∨ last (y + (m - 1) / 12) ((m - 1) % 12 + 1) < d then day (y + (m - 1) / 12) ((m - 1) % 12 + 1) (last (y + (m - 1) / 12) ((m - 1) % 12 + 1)) else day (y + (m - 1) / 12) ((m - 1) % 12 + 1) d) := by
 intro n
 induction n with
 | zero => intro y m _ _ h _ _ k; omega
 | succ n ih =>
  intro y m h1 h2 h3 h4 h5 k
  refine E.succ (E.ite (fun c => ?_) (fun c => ?_))
  ·simp (disch := omega) only [E.w64]
   have e1 : y + 1 + (m - 12 - 1) / 12 = y + (m - 1) / 12 := by omega
   have e2 : (m - 12 - 1) % 12 + 1 = (m - 1) % 12 + 1 := by omega
   have := ih (y + 1) (m - 12) (by omega) (by omega) (by omega) (by omega) (by omega) (by omega)
   rw [e1, e2] at this
   exact this
  ·have e1 : y + (m - 1) / 12 = y := by omega
   have e2 : (m - 1) % 12 + 1 = m := by omega
   rw [e1, e2]
   refine Ev.bind (rLast_is y m) ?_
   cases e with
   | true => exact E.pos rfl (Ev.bind (rDay_is _ _ _) (E.now (by simp)))
   | false =>
    refine E.neg (by simp) (E.ite (fun c2 => ?_) (fun c2 => ?_))
    ·rw [if_pos (.inr c2)]
     exact Ev.bind (rDay_is _ _ _) (E.now rfl)
    ·rw [if_neg (by simp; omega)]
     exact Ev.bind (rDay_is _ _ _) (E.now rfl)
theorem rm0 (e : Bool) {d : Int} : ∀ (n : Nat) (y m : Int), y ≤ 500000 → -1000000 ≤ m → m ≤ 500000 → -500000 ≤ y + m → (1 - m).toNat ≤ n → Ev (fun k => octavoref07_Months.l0 k e y m d) (if e ∨ last (y + (m - 1) / 12) ((m - 1) % 12 + 1) < d then day (y + (m - 1) / 12) ((m - 1) % 12 + 1) (last (y + (m - 1) / 12) ((m - 1) % 12 + 1)) else day (y + (m - 1) / 12) ((m - 1) % 12 + 1) d) := by
 intro n
 induction n with
 | zero =>
  intro y m h2 h3 h4 h5 k
  exact E.succ (E.neg (by omega) (rm1 e m.toNat y m (by omega) (by omega) (by omega) (by omega) (by omega) (by omega)))
 | succ n ih =>
  intro y m h2 h3 h4 h5 k
  refine E.succ (E.ite (fun c => ?_) (fun c => ?_))
  ·simp (disch := omega) only [E.w64]
   have e1 : y - 1 + (m + 12 - 1) / 12 = y + (m - 1) / 12 := by omega
   have e2 : (m + 12 - 1) % 12 + 1 = (m - 1) % 12 + 1 := by omega
   have := ih (y - 1) (m + 12) (by omega) (by omega) (by omega) (by omega) (by omega)
   rw [e1, e2] at this
   exact this
  ·exact rm1 e m.toNat y m (by omega) (by omega) (by omega) (by omega) (by omega) (by omega)
theorem rMonths_is {a y m d n : Int} (e : Bool) (h : Is a y m d) (h1 : -100000 ≤ n) (h2 : n ≤ 100000) : Ev (fun k => octavoref07_Months.f k a n e) (mon y m d n e) := by
 have g := h
 obtain ⟨g1, g2, g3, g4, g5, g6, g7⟩ := g
 unfold octavoref07_Months.f
 refine Ev.bind (rParts_is h) (E.pos rfl (E.neg (by omega) (E.succ ?_)))
 simp only [octavoref07_Months.j0]
 refine E.neg (by simp; omega) ?_
 rw [E.w64 (x := m + n) (by omega) (by omega)]
 exact rm0 e (1 - (m + n)).toNat y (m + n) (by omega) (by omega) (by omega) (by omega) (by omega)
theorem rMonths_far {a y m d n : Int} (e : Bool) (h : Is a y m d) (k : n < -100000 ∨ 100000 < n) : Ev (fun k => octavoref07_Months.f k a n e) (0, false) := by
 unfold octavoref07_Months.f
 refine Ev.bind (rParts_is h) (E.pos rfl ?_)
 by_cases c : n < -100000
 ·refine E.pos c (E.succ ?_)
  simp only [octavoref07_Months.j0]
  exact E.pos trivial (Ev.now _)
 ·refine E.neg c (E.succ ?_)
  simp only [octavoref07_Months.j0]
  exact E.pos (by simp; omega) (Ev.now _)
theorem Weekday_is (a : Int) : date_Weekday.f a = some (if 1 ≤ a ∧ a ≤ 2958464 then a % 7 + 1 else 0) := by
 unfold date_Weekday.f
 rw [good_is]
 simp only [Option.bind_some]
 by_cases c : 1 ≤ a ∧ a ≤ 2958464
 ·rw [if_pos (decide_eq_true c), if_pos c, (tm a 7 (by omega)).1 (by omega), E.w64 (by omega) (by omega)]
 ·rw [if_neg (by simpa using c), if_neg c]
theorem rWeekday_is (a : Int) : octavoref07_Weekday.f a = some (if 1 ≤ a ∧ a ≤ 2958464 then a % 7 + 1 else 0) := by
 unfold octavoref07_Weekday.f
 by_cases c : a < 1
 ·rw [if_pos c, if_neg (by omega)]
 ·rw [if_neg c]
  by_cases c2 : a > 2958464
  ·rw [if_pos c2, if_neg (by omega)]
  ·rw [if_neg c2, if_pos (by omega), (tm a 7 (by omega)).1 (by omega), E.w64 (by omega) (by omega)]
def thu (a : Int) : Int := a - (a - 1) % 7 + 3
theorem thu_bd {a : Int} (h : 1 ≤ a) (k : a ≤ 2958464) : 4 ≤ thu a ∧ thu a ≤ 2958464 := by unfold thu; omega
theorem Week_is {a y m d : Int} (h : 1 ≤ a) (k : a ≤ 2958464) (hi : Is (thu a) y m d) : Ev (fun n => date_Week.f n a) ((thu a - ah y - 1) / 7 + 1) := by
 have b := thu_bd h k
 have e : thu a = a - (a - 1) % 7 + 3 := rfl
 unfold date_Week.f
 refine E.bindn (good_is a) (E.pos (by simp; omega) ?_)
 rw [E.w64 (x := a - 1) (by omega) (by omega), (tm (a - 1) 7 (by omega)).1 (by omega), E.w64 (x := a - (a - 1) % 7) (by omega) (by omega), E.w64 (x := a - (a - 1) % 7 + 3) (by omega) (by omega), ← e]
 have q := Day_is y 1 1
 obtain ⟨h1, h2, h3, h4, h5, h6, h7⟩ := hi
 have f := fst_bd h1 h2 (m := 1) (by omega) (by omega)
 rw [fst1] at f
 have c := cm_bd (leap y) h3 h4
 unfold dn at h7
 have e1 : dn y 1 1 = ah y + 1 := by unfold dn; cases leap y <;> simp [cm]
 rw [day_yes h1 h2 (by omega) (by show (1 : Int) ≤ 31; omega), e1] at q
 refine Ev.bind (Parts_is ⟨h1, h2, h3, h4, h5, h6, h7⟩) (Ev.bind q (E.now ?_))
 show wrap64 (wrap64 (Int.tdiv (wrap64 (thu a - (ah y + 1))) 7) + 1) = _
 rw [E.w64 (x := thu a - (ah y + 1)) (by omega) (by omega), td _ (by omega), E.w64 (x := _ / 7) (by omega) (by omega), E.w64 (by omega) (by omega)]
 omega
theorem rWeek_is {a y m d : Int} (h : 1 ≤ a) (k : a ≤ 2958464) (hi : Is (thu a) y m d) : Ev (fun n => octavoref07_Week.f n a) ((thu a - ah y - 1) / 7 + 1) := by
 have b := thu_bd h k
 have e : thu a = a - (a + 6) % 7 + 3 := by unfold thu; omega
 unfold octavoref07_Week.f
 refine E.neg (by omega) (E.succ ?_)
 simp only [octavoref07_Week.j0]
 rw [E.w64 (x := a + 6) (by omega) (by omega), (tm (a + 6) 7 (by omega)).1 (by omega), E.w64 (x := a - (a + 6) % 7) (by omega) (by omega), E.w64 (x := a - (a + 6) % 7 + 3) (by omega) (by omega), ← e]
 refine E.neg (by simp; omega) (E.neg (by omega) (E.neg (by omega) ?_))
 have g := hi
 obtain ⟨h1, h2, h3, h4, h5, h6, h7⟩ := g
 have f := fst_bd h1 h2 (m := 1) (by omega) (by omega)
 have c := cm_bd (leap y) h3 h4
 unfold dn at h7
 refine Ev.bind (rParts_is hi) (Ev.bind (first_is h1 h2 (by omega) (by omega)) (E.now ?_))
 rw [fst1] at f ⊢
 rw [E.w64 (x := thu a - ah y) (by omega) (by omega), E.w64 (x := thu a - ah y - 1) (by omega) (by omega), td _ (by omega), E.w64 (x := _ / 7) (by omega) (by omega), E.w64 (by omega) (by omega)]
end Go.Proofs.YtllceoncpgebpaaGreatDoor.Dt
namespace Go.Proofs.YtllceoncpgebpaaGreatDoor.Dt
open Go.RowKit Go.Proofs.YtllceoncpgebpaaGreatDoor.P Go.Proofs.YtllceoncpgebpaaGreatDoorW.PrintWords Go.Proofs.YtllceoncpgebpaaGreatDoorW.PrintLast
set_option linter.unusedVariables false
set_option linter.unusedSimpArgs false
def fmt (y m d : Int) : List Int := [48 + y / 1000, 48 + y / 100 % 10, 48 + y / 10 % 10, 48 + y % 10, 45, 48 + m / 10, 48 + m % 10, 45, 48 + d / 10, 48 + d % 10]
theorem put_step {L : List Int} {i n : Int} {r : List Int} (hn : 0 < n) (h0 : 0 ≤ i) (h1 : i < 10) (hb : n ≤ 100000) (h : Ev (fun k => date_Print.l1 k (L.set i.toNat (48 + n % 10)) (i - 1) (n / 10)) r) : Ev (fun k => date_Print.l1 k L i n) r := by
 refine E.succ (E.pos hn (E.pos h0 (E.pos h1 ?_)))
 rw [td _ (by omega), E.w64 (by omega) (by omega)]
 exact h
theorem put_done {L : List Int} {i n : Int} (hn : n = 0) : Ev (fun k => date_Print.l1 k L i n) L := E.succ (E.neg (by omega) (Ev.now _))
theorem put4 {y : Int} (h : 1000 ≤ y) (k : y ≤ 9999) : Ev (fun k => date_Print.l1 k ([48, 48, 48, 48, 45, 48, 48, 45, 48, 48] : List Int) 3 y) [48 + y / 1000, 48 + y / 100 % 10, 48 + y / 10 % 10, 48 + y % 10, 45, 48, 48, 45, 48, 48] := by
 refine put_step (by omega) (by omega) (by omega) (by omega) (put_step (by omega) (by omega) (by omega) (by omega) (put_step (by omega) (by omega) (by omega) (by omega) (put_step (by omega) (by omega) (by omega) (by omega) (E.is (put_done (by omega)) ?_))))
 have e1 : y / 10 / 10 = y / 100 := by omega
 have e2 : y / 10 / 10 / 10 % 10 = y / 1000 := by omega
 rw [e2, e1]
 rfl
theorem put2 {i : Int} {n : Int} (L : List Int) (hi : 1 ≤ i) (hi2 : i < 10) (h : 1 ≤ n) (k : n ≤ 99) (h0 : L[(i - 1).toNat]? = some 48) : Ev (fun k => date_Print.l1 k L i n) ((L.set i.toNat (48 + n % 10)).set (i - 1).toNat (48 + n / 10)) := by
 by_cases c : n < 10
 ·refine put_step (by omega) (by omega) (by omega) (by omega) (E.is (put_done (by omega)) ?_)
  rw [show n / 10 = 0 from by omega]
  have hl : (i - 1).toNat < L.length := by
   rcases Nat.lt_or_ge (i - 1).toNat L.length with q | q
   ·exact q
   ·rw [List.getElem?_eq_none q] at h0; cases h0
  apply List.ext_getElem?
  intro j
  by_cases e : j = (i - 1).toNat
  ·subst e
   rw [List.getElem?_set_self (by simpa using hl), List.getElem?_set_ne (by omega), h0]
   rfl
  ·rw [List.getElem?_set_ne (by omega) (l := L.set _ _)]
 ·refine put_step (by omega) (by omega) (by omega) (by omega) (put_step (by omega) (by omega) (by omega) (by omega) (E.is (put_done (by omega)) ?_))
  rw [show n / 10 % 10 = n / 10 from by omega]
theorem Print_is {a y m d : Int} (h : Is a y m d) : Ev (fun k => date_Print.f k a) (strOfNums (fmt y m d)) := by
 have g := h
 obtain ⟨g1, g2, g3, g4, g5, g6, g7⟩ := g
 have l := last_bd y m g3 g4
 unfold date_Print.f
 refine Ev.bind (Parts_is h) (E.pos rfl (Ev.bind (put4 (by omega) g2) (Ev.bind (put2 (i := 6) (n := m) _ (by omega) (by omega) g3 (by omega) rfl) (Ev.bind (put2 (i := 9) (n := d) _ (by omega) (by omega) g5 (by omega) rfl) (E.now ?_)))))
 rfl
theorem son_append (x y : List Int) : strOfNums x ++ strOfNums y = strOfNums (x ++ y) := by
 apply ByteArray.ext
 simp [strOfNums, ByteArray.data_append]
theorem son_size (x : List Int) : (strOfNums x).size = x.length := by simp [strOfNums, ByteArray.size]
theorem u64 {x : Int} (h : 0 ≤ x) (k : x ≤ 18446744073709551615) : IntKind.u64.wrap x = x := by
 have e : IntKind.u64.bits = 64 := rfl
 have s : IntKind.u64.signed = false := rfl
 simp [IntKind.wrap, e, s]
 omega
theorem dig_last {n : Int} {l : List Int} (h : 0 ≤ n) (k : n < 10) (hl : l.length ≤ 100) : Ev (fun k => octavoref05_Digits.l0 k n (strOfNums l)) (strOfNums ((48 + n) :: l)) := by
 refine E.succ ?_
 simp only [octavoref05_Digits.l0, Option.bind_some]
 rw [(tm n 10 (by omega)).1 h, td _ h, u64 (x := 48 + n % 10) (by omega) (by omega), u64 (x := n / 10) (by omega) (by omega)]
 refine E.pos (by rw [son_size, son_size]; simp; omega) (E.pos (by omega) (E.now ?_))
 rw [son_append, show (48 + n % 10) % 256 = 48 + n from by omega]
 rfl
theorem dig_more {n : Int} {l : List Int} {r : ByteArray} (h : 10 ≤ n) (k : n ≤ 1000000) (hl : l.length ≤ 100) (g : Ev (fun k => octavoref05_Digits.l0 k (n / 10) (strOfNums ((48 + n % 10) :: l))) r) : Ev (fun k => octavoref05_Digits.l0 k n (strOfNums l)) r := by
 refine E.succ ?_
 simp only [octavoref05_Digits.l0, Option.bind_some]
 rw [(tm n 10 (by omega)).1 (by omega), td _ (by omega), u64 (x := 48 + n % 10) (by omega) (by omega), u64 (x := n / 10) (by omega) (by omega)]
 refine E.pos (by rw [son_size, son_size]; simp; omega) (E.neg (by omega) ?_)
 rw [son_append, show (48 + n % 10) % 256 = 48 + n % 10 from by omega]
 exact g
theorem Itoa_is {n : Int} {r : ByteArray} (h : 0 ≤ n) (k : n ≤ 1000000) (g : Ev (fun k => octavoref05_Digits.l0 k n (strOfNums [])) r) : Ev (fun k => octavoref05_Itoa.f k n) r := by
 unfold octavoref05_Itoa.f octavoref05_Digits.f
 refine E.neg (by omega) ?_
 rw [u64 h (by omega)]
 exact Ev.bind g (Ev.now _)
theorem pad_done {w : Int} {s : ByteArray} (h : w ≤ s.size) : Ev (fun k => octavoref07_pad.l0 k w s) s := E.succ (E.neg (by omega) (Ev.now _))
theorem pad4 {y : Int} (h : 1000 ≤ y) (k : y ≤ 9999) : Ev (fun k => octavoref07_pad.f k y 4) (strOfNums [48 + y / 1000, 48 + y / 100 % 10, 48 + y / 10 % 10, 48 + y % 10]) := by
 unfold octavoref07_pad.f
 refine Ev.bind (a := strOfNums [48 + y / 1000, 48 + y / 100 % 10, 48 + y / 10 % 10, 48 + y % 10]) (Itoa_is (by omega) (by omega) ?_) (pad_done (by rw [son_size]; simp))
 refine dig_more (by omega) (by omega) (by simp) (dig_more (by omega) (by omega) (by simp) (dig_more (by omega) (by omega) (by simp) (E.is (dig_last (by omega) (by omega) (by simp)) ?_)))
 rw [show y / 10 / 10 % 10 = y / 100 % 10 from by omega, show y / 10 / 10 / 10 = y / 1000 from by omega]
theorem pad2 {n : Int} (h : 1 ≤ n) (k : n ≤ 99) : Ev (fun k => octavoref07_pad.f k n 2) (strOfNums [48 + n / 10, 48 + n % 10]) := by
 unfold octavoref07_pad.f
 by_cases c : n < 10
 ·refine Ev.bind (Itoa_is (by omega) (by omega) (dig_last (by omega) c (by simp))) (E.succ (E.pos (by rw [son_size]; simp) (E.pos (by rw [son_size]; simp) (E.is (pad_done (by rw [ByteArray.size_append, son_size]; simp [ByteArray.size])) ?_))))
  rw [show n / 10 = 0 from by omega, show n % 10 = n from by omega]
  exact son_append [48] [48 + n]
 ·refine Ev.bind (Itoa_is (by omega) (by omega) (dig_more (by omega) (by omega) (by simp) (dig_last (by omega) (by omega) (by simp)))) (pad_done (by rw [son_size]; simp))
theorem rPrint_is {a y m d : Int} (h : Is a y m d) : Ev (fun k => octavoref07_Print.f k a) (strOfNums (fmt y m d)) := by
 have g := h
 obtain ⟨g1, g2, g3, g4, g5, g6, g7⟩ := g
 have l := last_bd y m g3 g4
 have s1 : (⟨#[45]⟩ : ByteArray) = strOfNums [45] := rfl
 unfold octavoref07_Print.f
 refine Ev.bind (rParts_is h) (E.pos rfl (Ev.bind (pad4 (by omega) g2) (E.pos (by rw [son_size]; simp) (Ev.bind (pad2 (n := m) g3 (by omega)) ?_))))
 simp only [s1, son_append, son_size]
 refine E.pos (by simp) (E.pos (by simp) (Ev.bind (pad2 (n := d) g5 (by omega)) ?_))
 simp only [son_append, son_size]
 exact E.pos (by simp) (E.now rfl)
def dg (s : ByteArray) (i : Int) : Bool := decide (48 ≤ bt s i ∧ bt s i ≤ 57)
def shape (s : ByteArray) : Bool := decide ((s.size : Int) = 10) && (decide (bt s 4 = 45) && (decide (bt s 7 = 45) && (dg s 0 && (dg s 1 && (dg s 2 && (dg s 3 && (dg s 5 && (dg s 6 && (dg s 8 && dg s 9)))))))))
def num (s : ByteArray) (i : Int) : Int := bt s i - 48
def parse (s : ByteArray) : Int × Bool := if shape s then day (1000 * num s 0 + 100 * num s 1 + 10 * num s 2 + num s 3) (10 * num s 5 + num s 6) (10 * num s 8 + num s 9) else (0, false)
theorem p_dash {s : ByteArray} (hs : (s.size : Int) = 10) {i : Int} {j a b c : Int} {r : Int × Bool} (hi : i = 4 ∨ i = 7) (hj : 0 ≤ j) (hj2 : j ≤ 5) (no : bt s i ≠ 45 → (0, false) = r) (yes : bt s i = 45 → Ev (fun k => date_Parse.l0 k s (j + 1) (i + 1) a b c) r) : Ev (fun k => date_Parse.l0 k s j i a b c) r := by
 refine E.succ (E.pos (by omega) (E.pos (by omega) (E.pos hi (E.ite (fun c => ?_) (fun c => E.now (no c))))))
 simp (disch := omega) only [E.w64]
 exact yes c
theorem p_dig {s : ByteArray} (hs : (s.size : Int) = 10) {i : Int} {j a b c a' b' c' : Int} {r : Int × Bool} (hi0 : 0 ≤ i) (hi : i < 10) (hi4 : i ≠ 4) (hi7 : i ≠ 7) (no : dg s i = false → (0, false) = r)
  (hh : (j = 0 ∧ 0 ≤ a ∧ a ≤ 100000 ∧ a' = 10 * a + num s i ∧ b' = b ∧ c' = c) ∨ (j = 1 ∧ 0 ≤ b ∧ b ≤ 100000 ∧ a' = a ∧ b' = 10 * b + num s i ∧ c' = c) ∨ (j = 2 ∧ 0 ≤ c ∧ c ≤ 100000 ∧ a' = a ∧ b' = b ∧ c' = 10 * c + num s i))
  (yes : dg s i = true → Ev (fun k => date_Parse.l0 k s j (i + 1) a' b' c') r) : Ev (fun k => date_Parse.l0 k s j i a b c) r := by
 refine E.succ (E.pos (by omega) (E.pos (by omega) (E.neg (by omega) (E.ite (fun c => E.now (no (decide_eq_false (by omega)))) (fun c1 => E.ite (fun c => E.now (no (decide_eq_false (by omega)))) (fun c2 => ?_))))))
 have y := yes (decide_eq_true (by omega))
 have e : (bt s i - 48) % 256 = bt s i - 48 := by omega
 unfold num at hh
 rw [E.w64 (x := i + 1) (by omega) (by omega), e]
 rcases hh with ⟨rfl, _, _, rfl, rfl, rfl⟩ | ⟨rfl, _, _, rfl, rfl, rfl⟩ | ⟨rfl, _, _, rfl, rfl, rfl⟩
 ·simp (disch := omega) only [E.w64]
  exact E.pos (by simp) y
 ·simp (disch := omega) only [E.w64]
  exact E.neg (by simp) (E.pos (by simp) y)
 ·simp (disch := omega) only [E.w64]
  exact E.neg (by simp) (E.neg (by simp) (E.pos (by simp) y))
theorem p_end {s : ByteArray} (hs : (s.size : Int) = 10) {j a b c : Int} : Ev (fun k => date_Parse.l0 k s j 10 a b c) (day a b c) := E.succ (E.neg (by omega) (Day_is a b c))
theorem dg_bd {s : ByteArray} {i : Int} (h : dg s i = true) : 0 ≤ num s i ∧ num s i ≤ 9 := by
 have := of_decide_eq_true h
 unfold num
 omega
theorem Parse_is (s : ByteArray) : Ev (fun k => date_Parse.f k s) (parse s) := by
 unfold date_Parse.f
 by_cases hs : (s.size : Int) = 10
 ·refine E.pos hs ?_
  refine p_dig hs (i := 0) (by omega) (by omega) (by omega) (by omega) (fun h => by simp [parse, shape, h]) (.inl ⟨rfl, by omega, by omega, rfl, rfl, rfl⟩) (fun h0 => ?_)
  have b0 := dg_bd h0
  refine p_dig hs (i := 0 + 1) (by omega) (by omega) (by omega) (by omega) (fun h => by simp [parse, shape, show dg s 1 = false from h]) (.inl ⟨rfl, by omega, by omega, rfl, rfl, rfl⟩) (fun h1 => ?_)
  have b1 := dg_bd h1
  refine p_dig hs (i := 0 + 1 + 1) (by omega) (by omega) (by omega) (by omega) (fun h => by simp [parse, shape, show dg s 2 = false from h]) (.inl ⟨rfl, by omega, by omega, rfl, rfl, rfl⟩) (fun h2 => ?_)
  have b2 := dg_bd h2
  refine p_dig hs (i := 0 + 1 + 1 + 1) (by omega) (by omega) (by omega) (by omega) (fun h => by simp [parse, shape, show dg s 3 = false from h]) (.inl ⟨rfl, by omega, by omega, rfl, rfl, rfl⟩) (fun h3 => ?_)
  have b3 := dg_bd h3
  refine p_dash hs (i := 0 + 1 + 1 + 1 + 1) (.inl rfl) (by omega) (by omega) (fun h => by simp [parse, shape, show bt s 4 ≠ 45 from h]) (fun h4 => ?_)
  refine p_dig hs (i := 0 + 1 + 1 + 1 + 1 + 1) (by omega) (by omega) (by omega) (by omega) (fun h => by simp [parse, shape, show dg s 5 = false from h]) (.inr (.inl ⟨rfl, by omega, by omega, rfl, rfl, rfl⟩)) (fun h5 => ?_)
  have b5 := dg_bd h5
  refine p_dig hs (i := 0 + 1 + 1 + 1 + 1 + 1 + 1) (by omega) (by omega) (by omega) (by omega) (fun h => by simp [parse, shape, show dg s 6 = false from h]) (.inr (.inl ⟨rfl, by omega, by omega, rfl, rfl, rfl⟩)) (fun h6 => ?_)
  have b6 := dg_bd h6
  refine p_dash hs (i := 0 + 1 + 1 + 1 + 1 + 1 + 1 + 1) (.inr rfl) (by omega) (by omega) (fun h => by simp [parse, shape, show bt s 7 ≠ 45 from h]) (fun h7 => ?_)
  refine p_dig hs (i := 0 + 1 + 1 + 1 + 1 + 1 + 1 + 1 + 1) (by omega) (by omega) (by omega) (by omega) (fun h => by simp [parse, shape, show dg s 8 = false from h]) (.inr (.inr ⟨rfl, by omega, by omega, rfl, rfl, rfl⟩)) (fun h8 => ?_)
  have b8 := dg_bd h8
  refine p_dig hs (i := 0 + 1 + 1 + 1 + 1 + 1 + 1 + 1 + 1 + 1) (by omega) (by omega) (by omega) (by omega) (fun h => by simp [parse, shape, show dg s 9 = false from h]) (.inr (.inr ⟨rfl, by omega, by omega, rfl, rfl, rfl⟩)) (fun h9 => ?_)
  refine E.is (p_end hs) ?_
  have sh : shape s = true := by
   simp only [shape, hs, show bt s 4 = 45 from h4, show bt s 7 = 45 from h7, h0, show dg s 1 = true from h1, show dg s 2 = true from h2, show dg s 3 = true from h3, show dg s 5 = true from h5, show dg s 6 = true from h6, show dg s 8 = true from h8, show dg s 9 = true from h9]
   rfl
  rw [parse, if_pos sh]
  congr 1
  ·show 10 * (10 * (10 * (10 * 0 + num s 0) + num s 1) + num s 2) + num s 3 = _; omega
  ·show 10 * (10 * 0 + num s 5) + num s 6 = _; omega
  ·show 10 * (10 * 0 + num s 8) + num s 9 = _; omega
 ·refine E.neg hs (E.now ?_)
  simp [parse, shape, hs]
end Go.Proofs.YtllceoncpgebpaaGreatDoor.Dt
namespace Go.Proofs.YtllceoncpgebpaaGreatDoor.Dt
open Go.RowKit Go.Proofs.YtllceoncpgebpaaGreatDoor.P Go.Proofs.YtllceoncpgebpaaGreatDoorW.PrintWords Go.Proofs.YtllceoncpgebpaaGreatDoorW.PrintLast
set_option linter.unusedVariables false
set_option linter.unusedSimpArgs false
theorem parse_no {s : ByteArray} (h : shape s = false) : parse s = (0, false) := if_neg (by rw [h]; decide)
theorem bt_extract (s : ByteArray) (a b : Nat) (i : Int) (h : b ≤ s.size) (h0 : 0 ≤ i) (hi : a + i < b) : bt (s.extract a b) i = bt s (a + i) := by
 have h1 : i.toNat < (s.extract a b).size := by rw [ByteArray.size_extract]; omega
 have h2 : ((a : Int) + i).toNat < s.size := by omega
 unfold bt
 rw [dif_pos h1, dif_pos h2]
 congr 2
 rw [ByteArray.getElem_extract]
 congr 1
 omega
theorem n_no {s : ByteArray} {x i : Int} (h0 : 0 ≤ i) (hi : i < s.size) (h : dg s i = false) : Ev (fun k => octavoref07_number.l0 k s x i) (-1) := by
 have := of_decide_eq_false h
 refine E.succ (E.pos hi (E.pos h0 (E.ite (fun _ => Ev.now _) (fun _ => E.pos (by omega) (Ev.now _)))))
theorem n_yes {s : ByteArray} {x i r : Int} (h0 : 0 ≤ i) (hi : i < s.size) (hs : s.size ≤ 100) (hx : 0 ≤ x) (hx2 : x ≤ 1000000) (h : dg s i = true) (g : Ev (fun k => octavoref07_number.l0 k s (10 * x + num s i) (i + 1)) r) : Ev (fun k => octavoref07_number.l0 k s x i) r := by
 have := of_decide_eq_true h
 refine E.succ (E.pos hi (E.pos h0 (E.neg (by omega) (E.neg (by omega) ?_))))
 rw [show (bt s i - 48) % 256 = num s i from by unfold num; omega]
 unfold num at g ⊢
 simp (disch := omega) only [E.w64]
 exact g
theorem n_end {s : ByteArray} {x i : Int} (hi : (s.size : Int) ≤ i) : Ev (fun k => octavoref07_number.l0 k s x i) x := E.succ (E.neg (by omega) (Ev.now _))
theorem num4 {s : ByteArray} (h : s.size = 4) : Ev (fun k => octavoref07_number.f k s) (if dg s 0 && (dg s 1 && (dg s 2 && dg s 3)) then 1000 * num s 0 + 100 * num s 1 + 10 * num s 2 + num s 3 else -1) := by
 unfold octavoref07_number.f
 by_cases d0 : dg s 0 = true
 ·have b0 := dg_bd d0
  refine n_yes (by omega) (by omega) (by omega) (by omega) (by omega) d0 ?_
  by_cases d1 : dg s 1 = true
  ·have b1 := dg_bd d1
   refine n_yes (by omega) (by omega) (by omega) (by show 0 ≤ 10 * 0 + num s 0; omega) (by show 10 * 0 + num s 0 ≤ _; omega) d1 ?_
   by_cases d2 : dg s 2 = true
   ·have b2 := dg_bd d2
    refine n_yes (by omega) (by omega) (by omega) (by show 0 ≤ 10 * (10 * 0 + num s 0) + num s 1; omega) (by show 10 * (10 * 0 + num s 0) + num s 1 ≤ _; omega) d2 ?_
    by_cases d3 : dg s 3 = true
    ·have b3 := dg_bd d3
     refine n_yes (by omega) (by omega) (by omega) (by show 0 ≤ 10 * (10 * (10 * 0 + num s 0) + num s 1) + num s 2; omega) (by show 10 * (10 * (10 * 0 + num s 0) + num s 1) + num s 2 ≤ _; omega) d3 (E.is (n_end (by omega)) ?_)
     rw [d0, d1, d2, d3]
     show 10 * (10 * (10 * (10 * 0 + num s 0) + num s 1) + num s 2) + num s 3 = 1000 * num s 0 + 100 * num s 1 + 10 * num s 2 + num s 3
     omega
    ·exact E.is (n_no (by omega) (by omega) (by simpa using d3)) (by simp [d3])
   ·exact E.is (n_no (by omega) (by omega) (by simpa using d2)) (by simp [d2])
  ·exact E.is (n_no (by omega) (by omega) (by simpa using d1)) (by simp [d1])
 ·exact E.is (n_no (by omega) (by omega) (by simpa using d0)) (by simp [d0])
theorem num2 {s : ByteArray} (h : s.size = 2) : Ev (fun k => octavoref07_number.f k s) (if dg s 0 && dg s 1 then 10 * num s 0 + num s 1 else -1) := by
 unfold octavoref07_number.f
 by_cases d0 : dg s 0 = true
 ·have b0 := dg_bd d0
  refine n_yes (by omega) (by omega) (by omega) (by omega) (by omega) d0 ?_
  by_cases d1 : dg s 1 = true
  ·have b1 := dg_bd d1
   refine n_yes (by omega) (by omega) (by omega) (by show 0 ≤ 10 * 0 + num s 0; omega) (by show 10 * 0 + num s 0 ≤ _; omega) d1 (E.is (n_end (by omega)) ?_)
   rw [d0, d1]
   show 10 * (10 * 0 + num s 0) + num s 1 = 10 * num s 0 + num s 1
   omega
  ·exact E.is (n_no (by omega) (by omega) (by simpa using d1)) (by simp [d1])
 ·exact E.is (n_no (by omega) (by omega) (by simpa using d0)) (by simp [d0])
theorem rParse_is (s : ByteArray) : Ev (fun k => octavoref07_Parse.f k s) (parse s) := by
 unfold octavoref07_Parse.f
 by_cases hs : (s.size : Int) = 10
 ·refine E.pos hs (E.pos (by omega) (E.ite (fun h4 => E.pos (by omega) (E.succ ?_)) (fun h4 => E.succ ?_)))
  ·simp only [octavoref07_Parse.j0]
   refine E.ite (fun h => ?_) (fun h => ?_)
   ·refine E.now ?_
    have : bt s 7 ≠ 45 := by simpa using h
    simp [parse, shape, this]
   ·have h7 : bt s 7 = 45 := by simpa using h
    have e : ∀ a b : Nat, b ≤ 10 → ∀ j : Int, 0 ≤ j → a + j < b → dg (s.extract a b) j = dg s (a + j) ∧ num (s.extract a b) j = num s (a + j) := fun a b hb j h0 hj => by
     have := bt_extract s a b j (by omega) h0 hj
     constructor
     ·unfold dg; rw [this]
     ·unfold num; rw [this]
    have q1 := num4 (s := s.extract 0 4) (by rw [ByteArray.size_extract]; omega)
    have q2 := num2 (s := s.extract 5 7) (by rw [ByteArray.size_extract]; omega)
    have q3 := num2 (s := s.extract 8 s.size) (by rw [ByteArray.size_extract]; omega)
    rw [(e 0 4 (by omega) 0 (by omega) (by omega)).1, (e 0 4 (by omega) 1 (by omega) (by omega)).1, (e 0 4 (by omega) 2 (by omega) (by omega)).1, (e 0 4 (by omega) 3 (by omega) (by omega)).1, (e 0 4 (by omega) 0 (by omega) (by omega)).2, (e 0 4 (by omega) 1 (by omega) (by omega)).2, (e 0 4 (by omega) 2 (by omega) (by omega)).2, (e 0 4 (by omega) 3 (by omega) (by omega)).2] at q1
    rw [(e 5 7 (by omega) 0 (by omega) (by omega)).1, (e 5 7 (by omega) 1 (by omega) (by omega)).1, (e 5 7 (by omega) 0 (by omega) (by omega)).2, (e 5 7 (by omega) 1 (by omega) (by omega)).2] at q2
    rw [(e 8 s.size (by omega) 0 (by omega) (by omega)).1, (e 8 s.size (by omega) 1 (by omega) (by omega)).1, (e 8 s.size (by omega) 0 (by omega) (by omega)).2, (e 8 s.size (by omega) 1 (by omega) (by omega)).2] at q3
    replace q1 : Ev (fun k => octavoref07_number.f k (s.extract 0 4)) (if dg s 0 && (dg s 1 && (dg s 2 && dg s 3)) then 1000 * num s 0 + 100 * num s 1 + 10 * num s 2 + num s 3 else -1) := q1
    replace q2 : Ev (fun k => octavoref07_number.f k (s.extract 5 7)) (if dg s 5 && dg s 6 then 10 * num s 5 + num s 6 else -1) := q2
    replace q3 : Ev (fun k => octavoref07_number.f k (s.extract 8 s.size)) (if dg s 8 && dg s 9 then 10 * num s 8 + num s 9 else -1) := q3
    refine E.pos (by omega) (E.pos (by omega) (Ev.bind q1 (E.pos (by omega) (E.pos (by omega) (Ev.bind q2 (E.pos (by omega) (Ev.bind q3 ?_)))))))
    by_cases c1 : (dg s 0 && (dg s 1 && (dg s 2 && dg s 3))) = true
    ·by_cases c2 : (dg s 5 && dg s 6) = true
     ·by_cases c3 : (dg s 8 && dg s 9) = true
      ·rw [if_pos c1, if_pos c2, if_pos c3]
       have sh : shape s = true := by
        simp only [Bool.and_eq_true] at c1 c2 c3
        simp [shape, hs, h4, h7, c1, c2, c3]
       rw [parse, if_pos sh]
       simp only [Bool.and_eq_true] at c1 c2 c3
       have := dg_bd c1.1; have := dg_bd c1.2.1; have := dg_bd c1.2.2.1; have := dg_bd c1.2.2.2
       have := dg_bd c2.1; have := dg_bd c2.2; have := dg_bd c3.1; have := dg_bd c3.2
       exact E.neg (by omega) (E.neg (by omega) (E.neg (by omega) (Ev.bind (rDay_is _ _ _) (E.now rfl))))
      ·rw [if_pos c1, if_pos c2, if_neg c3]
       have sh : shape s = false := by
        simp only [Bool.and_eq_true] at c1 c2
        rw [Bool.not_eq_true] at c3
        simp [shape, c1, c2, c3]
       rw [parse_no sh]
       simp only [Bool.and_eq_true] at c1 c2
       have := dg_bd c1.1; have := dg_bd c1.2.1; have := dg_bd c1.2.2.1; have := dg_bd c1.2.2.2
       have := dg_bd c2.1; have := dg_bd c2.2
       exact E.neg (by omega) (E.neg (by omega) (E.pos (by omega) (Ev.now _)))
     ·rw [if_pos c1, if_neg c2]
      have sh : shape s = false := by
       simp only [Bool.and_eq_true] at c1
       rw [Bool.not_eq_true, Bool.and_eq_false_iff] at c2
       rcases c2 with c2 | c2 <;> simp [shape, c1, c2]
      rw [parse_no sh]
      simp only [Bool.and_eq_true] at c1
      have := dg_bd c1.1; have := dg_bd c1.2.1; have := dg_bd c1.2.2.1; have := dg_bd c1.2.2.2
      exact E.neg (by omega) (E.pos (by omega) (Ev.now _))
    ·rw [if_neg c1]
     have sh : shape s = false := by
      rw [Bool.not_eq_true, Bool.and_eq_false_iff, Bool.and_eq_false_iff, Bool.and_eq_false_iff] at c1
      rcases c1 with c1 | c1 | c1 | c1 <;> simp [shape, c1]
     rw [parse_no sh]
     exact E.pos (by omega) (Ev.now _)
  ·simp only [octavoref07_Parse.j0]
   exact E.pos trivial (E.now (by simp [parse, shape, h4]))
 ·refine E.neg hs (E.succ ?_)
  simp only [octavoref07_Parse.j0]
  exact E.pos trivial (E.now (by simp [parse, shape, hs]))
end Go.Proofs.YtllceoncpgebpaaGreatDoor.Dt
namespace Go.Proofs.YtllceoncpgebpaaGreatDoor.Pure
open Go.RowKit Go.Proofs.YtllceoncpgebpaaGreatDoor.P Go.Proofs.YtllceoncpgebpaaGreatDoor.Dt Go.Proofs.YtllceoncpgebpaaGreatDoorW.PrintWords Go.Proofs.YtllceoncpgebpaaGreatDoorW.PrintLast
set_option linter.unusedVariables false
set_option linter.unusedSimpArgs false
theorem bt_son (l : List Int) (j : Nat) (v : Int) (h : l[j]? = some v) (h0 : 0 ≤ v) (h1 : v ≤ 255) : bt (strOfNums l) (j : Int) = v := by
 have hl : j < l.length := by
  rcases Nat.lt_or_ge j l.length with q | q
  ·exact q
  ·rw [List.getElem?_eq_none q] at h; cases h
 have hj : (j : Int).toNat < (strOfNums l).size := by rw [son_size]; simpa using hl
 unfold bt
 rw [dif_pos hj]
 have e : l[j] = v := by rw [List.getElem?_eq_getElem hl] at h; exact Option.some.inj h
 have : (strOfNums l)[(j : Int).toNat]'hj = UInt8.ofNat (l[j]).toNat := by
  show (strOfNums l).data[(j : Int).toNat]'hj = _
  simp [strOfNums]
 rw [this, e]
 simp
 omega
end Go.Proofs.YtllceoncpgebpaaGreatDoor.Pure
namespace Go.Proofs.YtllceoncpgebpaaGreatDoor.Pure
open Go.RowKit Go.Proofs.YtllceoncpgebpaaGreatDoor.P Go.Proofs.YtllceoncpgebpaaGreatDoor.Dt Go.Proofs.YtllceoncpgebpaaGreatDoorW.PrintWords Go.Proofs.YtllceoncpgebpaaGreatDoorW.PrintLast
set_option linter.unusedVariables false
set_option linter.unusedSimpArgs false
theorem d_step {y m d i x : Int} {r : Int × Bool} (hi : 0 ≤ i) (h3 : i < 3) (hx : rd ([y, m, d] : List Int) i = x) (no : (x < -100000 ∨ 100000 < x) → (0, false) = r) (yes : -100000 ≤ x → x ≤ 100000 → Ev (fun k => date_Of.l0 k y m d (i + 1)) r) : Ev (fun k => date_Of.l0 k y m d i) r := by
 refine E.succ (E.pos h3 (E.pos hi ?_))
 rw [hx, E.w64 (x := i + 1) (by omega) (by omega)]
 exact E.ite (fun c => E.now (no (by omega))) (fun c => E.ite (fun c2 => E.now (no (by omega))) (fun c2 => yes (by omega) (by omega)))
theorem r_step {y m d i x : Int} {r : Int × Bool} (hi : 0 ≤ i) (h3 : i < 3) (hx : rd ([y, m, d] : List Int) i = x) (no : (x < -100000 ∨ 100000 < x) → (0, false) = r) (yes : -100000 ≤ x → x ≤ 100000 → Ev (fun k => octavoref07_Of.l0 k y m d (i + 1)) r) : Ev (fun k => octavoref07_Of.l0 k y m d i) r := by
 refine E.succ (E.pos h3 (E.pos hi ?_))
 rw [hx, E.w64 (x := i + 1) (by omega) (by omega)]
 exact E.ite (fun c => E.now (no (by omega))) (fun c => E.ite (fun c2 => E.now (no (by omega))) (fun c2 => yes (by omega) (by omega)))
theorem ofs (y m d : Int) (b1 : -9223372036854775808 ≤ y ∧ y ≤ 9223372036854775807) (b2 : -9223372036854775808 ≤ m ∧ m ≤ 9223372036854775807) (b3 : -9223372036854775808 ≤ d ∧ d ≤ 9223372036854775807) : ∃ r, Ev (fun k => date_Of.f k y m d) r ∧ Ev (fun k => octavoref07_Of.f k y m d) r := by
 have r0 : rd ([y, m, d] : List Int) 0 = y := rfl
 have r1 : rd ([y, m, d] : List Int) 1 = m := rfl
 have r2 : rd ([y, m, d] : List Int) 2 = d := rfl
 by_cases c : -100000 ≤ y ∧ y ≤ 100000 ∧ -100000 ≤ m ∧ m ≤ 100000 ∧ -100000 ≤ d ∧ d ≤ 100000
 ·obtain ⟨c1, c2, c3, c4, c5, c6⟩ := c
  have e : ∃ r, Ev (fun k => date_Of.l0 k y m d 3) r ∧ Ev (fun k => octavoref07_Of.l1 k y m d) r := by
   have car := carried_is (y := y) (m := m) (by omega) (by omega) (by omega) (by omega)
   have r_l2 : ∀ (r : Int × Bool), Ev (fun k => octavoref07_Of.j3 k (y + (m - 1) / 12) ((m - 1) % 12 + 1) d (decide (y + (m - 1) / 12 > 9999))) r → ¬ y + (m - 1) / 12 < 1900 → ∀ (n : Nat) (y' m' : Int), y' + (m' - 1) / 12 = y + (m - 1) / 12 → (m' - 1) % 12 + 1 = (m - 1) % 12 + 1 → 1 ≤ m' → m' ≤ 300000 → -300000 ≤ y' → y' ≤ 300000 → m'.toNat ≤ n → Ev (fun k => octavoref07_Of.l2 k y' m' d) r := by
    intro r hr hy n
    induction n with
    | zero => intro y' m' _ _ h _ _ _ k; omega
    | succ n ih =>
     intro y' m' e1 e2 h1 h2 h3 h4 k
     refine E.succ (E.ite (fun c => ?_) (fun c => ?_))
     ·simp (disch := omega) only [E.w64]
      exact ih (y' + 1) (m' - 12) (by omega) (by omega) (by omega) (by omega) (by omega) (by omega) (by omega)
     ·have f1 : y' = y + (m - 1) / 12 := by omega
      have f2 : m' = (m - 1) % 12 + 1 := by omega
      subst f1
      subst f2
      exact E.neg hy hr
   have r_l2' : y + (m - 1) / 12 < 1900 → ∀ (n : Nat) (y' m' : Int), y' + (m' - 1) / 12 = y + (m - 1) / 12 → (m' - 1) % 12 + 1 = (m - 1) % 12 + 1 → 1 ≤ m' → m' ≤ 300000 → -300000 ≤ y' → y' ≤ 300000 → m'.toNat ≤ n → Ev (fun k => octavoref07_Of.l2 k y' m' d) (0, false) := by
    intro hy n
    induction n with
    | zero => intro y' m' _ _ h _ _ _ k; omega
    | succ n ih =>
     intro y' m' e1 e2 h1 h2 h3 h4 k
     refine E.succ (E.ite (fun c => ?_) (fun c => ?_))
     ·simp (disch := omega) only [E.w64]
      exact ih (y' + 1) (m' - 12) (by omega) (by omega) (by omega) (by omega) (by omega) (by omega) (by omega)
     ·refine E.pos (by omega) (E.succ ?_)
      simp only [octavoref07_Of.j3]
      exact E.pos trivial (Ev.now _)
   have r_l1 : ∀ (r : Int × Bool), (∀ (y' m' : Int), y' + (m' - 1) / 12 = y + (m - 1) / 12 → (m' - 1) % 12 + 1 = (m - 1) % 12 + 1 → 1 ≤ m' → m' ≤ 300000 → -300000 ≤ y' → y' ≤ 300000 → Ev (fun k => octavoref07_Of.l2 k y' m' d) r) → ∀ (n : Nat) (y' m' : Int), y' + (m' - 1) / 12 = y + (m - 1) / 12 → (m' - 1) % 12 + 1 = (m - 1) % 12 + 1 → -100000 ≤ m' → m' ≤ 100000 → -250000 ≤ y' + m' → y' ≤ 100000 → -300000 ≤ y' → (1 - m').toNat ≤ n → Ev (fun k => octavoref07_Of.l1 k y' m' d) r := by
    intro r hr n
    induction n with
    | zero => intro y' m' e1 e2 h1 h2 h3 h4 h5 k; exact E.succ (E.neg (by omega) (hr y' m' e1 e2 (by omega) (by omega) (by omega) (by omega)))
    | succ n ih =>
     intro y' m' e1 e2 h1 h2 h3 h4 h5 k
     refine E.succ (E.ite (fun c => ?_) (fun c => hr y' m' e1 e2 (by omega) (by omega) (by omega) (by omega)))
     simp (disch := omega) only [E.w64]
     exact ih (y' - 1) (m' + 12) (by omega) (by omega) (by omega) (by omega) (by omega) (by omega) (by omega) (by omega)
   have hm' : 1 ≤ (m - 1) % 12 + 1 ∧ (m - 1) % 12 + 1 ≤ 12 := by omega
   by_cases cy : 1900 ≤ y + (m - 1) / 12 ∧ y + (m - 1) / 12 ≤ 9999
   ·have fb := fst_bd cy.1 cy.2 hm'.1 hm'.2
    have lb := last_bd (y + (m - 1) / 12) ((m - 1) % 12 + 1) hm'.1 hm'.2
    have q := Day_is (y + (m - 1) / 12) ((m - 1) % 12 + 1) 1
    rw [day_yes cy.1 cy.2 (by omega) (by omega)] at q
    have dd : dn (y + (m - 1) / 12) ((m - 1) % 12 + 1) 1 = fst (y + (m - 1) / 12) ((m - 1) % 12 + 1) + 1 := rfl
    rw [dd] at q
    generalize hF : fst (y + (m - 1) / 12) ((m - 1) % 12 + 1) = F at *
    refine ⟨if 1 ≤ F + d ∧ F + d ≤ 2958464 then (F + d, true) else (0, false), ?_, ?_⟩
    ·refine E.succ (E.neg (by omega) (E.bindn car (Ev.bind q (E.pos rfl ?_))))
     have w : wrap64 (wrap64 (F + 1 + d) - 1) = F + d := by
      rw [E.w64 (x := F + 1 + d) (by omega) (by omega), E.w64 (by omega) (by omega)]; omega
     show Ev (fun _ => (date_good.f (wrap64 (wrap64 (F + 1 + d) - 1))).bind fun t257 => if t257 = true then some (wrap64 (wrap64 (F + 1 + d) - 1), true) else some (0, false)) _
     rw [w]
     refine E.bindn (good_is _) ?_
     by_cases cc : 1 ≤ F + d ∧ F + d ≤ 2958464
     ·rw [if_pos cc]
      exact E.pos (decide_eq_true cc) (Ev.now _)
     ·rw [if_neg cc]
      exact E.neg (by simpa using cc) (Ev.now _)
    ·refine r_l1 _ (fun y' m' g1 g2 g3 g4 g5 g6 => r_l2 _ ?_ (by omega) m'.toNat y' m' g1 g2 g3 g4 g5 g6 (by omega)) (1 - m).toNat y m rfl rfl c3 c4 (by omega) c2 (by omega) (by omega)
     refine E.succ ?_
     simp only [octavoref07_Of.j3]
     have ff := first_is cy.1 cy.2 hm'.1 hm'.2
     rw [hF] at ff
     refine E.neg (by simp; omega) (Ev.bind ff ?_)
     rw [E.w64 (x := F + d) (by omega) (by omega)]
     by_cases cc : 1 ≤ F + d ∧ F + d ≤ 2958464
     ·rw [if_pos cc]
      exact E.neg (by omega) (E.neg (by omega) (Ev.now _))
     ·rw [if_neg cc]
      exact E.ite (fun _ => Ev.now _) (fun _ => E.pos (by omega) (Ev.now _))
   ·have q := Day_is (y + (m - 1) / 12) ((m - 1) % 12 + 1) 1
    rw [day_no (by omega)] at q
    refine ⟨(0, false), E.succ (E.neg (by omega) (E.bindn car (Ev.bind q (E.neg (by simp) (Ev.now _))))), ?_⟩
    by_cases cz : y + (m - 1) / 12 < 1900
    ·exact r_l1 _ (fun y' m' g1 g2 g3 g4 g5 g6 => r_l2' cz m'.toNat y' m' g1 g2 g3 g4 g5 g6 (by omega)) (1 - m).toNat y m rfl rfl c3 c4 (by omega) c2 (by omega) (by omega)
    ·refine r_l1 _ (fun y' m' g1 g2 g3 g4 g5 g6 => r_l2 _ ?_ cz m'.toNat y' m' g1 g2 g3 g4 g5 g6 (by omega)) (1 - m).toNat y m rfl rfl c3 c4 (by omega) c2 (by omega) (by omega)
     refine E.succ ?_
     simp only [octavoref07_Of.j3]
     exact E.pos (by simp; omega) (Ev.now _)
  obtain ⟨r, e1, e2⟩ := e
  refine ⟨r, ?_, ?_⟩
  ·unfold date_Of.f
   exact d_step (by omega) (by omega) r0 (fun h => by omega) (fun _ _ => d_step (by omega) (by omega) r1 (fun h => by omega) (fun _ _ => d_step (by omega) (by omega) r2 (fun h => by omega) (fun _ _ => e1)))
  ·unfold octavoref07_Of.f
   exact r_step (by omega) (by omega) r0 (fun h => by omega) (fun _ _ => r_step (by omega) (by omega) r1 (fun h => by omega) (fun _ _ => r_step (by omega) (by omega) r2 (fun h => by omega) (fun _ _ => E.succ (E.neg (by omega) e2))))
 ·refine ⟨(0, false), ?_, ?_⟩
  ·unfold date_Of.f
   exact d_step (by omega) (by omega) r0 (fun h => rfl) (fun _ _ => d_step (by omega) (by omega) r1 (fun h => rfl) (fun _ _ => d_step (by omega) (by omega) r2 (fun h => rfl) (fun _ _ => by omega)))
  ·unfold octavoref07_Of.f
   exact r_step (by omega) (by omega) r0 (fun h => rfl) (fun _ _ => r_step (by omega) (by omega) r1 (fun h => rfl) (fun _ _ => r_step (by omega) (by omega) r2 (fun h => rfl) (fun _ _ => by omega)))
end Go.Proofs.YtllceoncpgebpaaGreatDoor.Pure
namespace Go.Proofs.YtllceoncpgebpaaGreatDoor.Lg
open Go.RowKit Go.Proofs.YtllceoncpgebpaaGreatDoor.P Go.Proofs.YtllceoncpgebpaaGreatDoor.Dt Go.Proofs.YtllceoncpgebpaaGreatDoor.Pure Go.Proofs.YtllceoncpgebpaaGreatDoorW.PrintWords Go.Proofs.YtllceoncpgebpaaGreatDoorW.PrintLast
set_option linter.unusedVariables false
set_option linter.unusedSimpArgs false
def far (x : Int) : Bool := decide (x < -100000 ∨ 100000 < x)
def dof (y m d : Int) : Int × Bool :=
 if far y || far m || far d then (0, false) else
 if 1900 ≤ y + (m - 1) / 12 ∧ y + (m - 1) / 12 ≤ 9999 ∧ 1 ≤ fst (y + (m - 1) / 12) ((m - 1) % 12 + 1) + d ∧ fst (y + (m - 1) / 12) ((m - 1) % 12 + 1) + d ≤ 2958464 then (fst (y + (m - 1) / 12) ((m - 1) % 12 + 1) + d, true) else (0, false)
theorem Of_is (y m d : Int) : Ev (fun k => date_Of.f k y m d) (dof y m d) := by
 have r0 : rd ([y, m, d] : List Int) 0 = y := rfl
 have r1 : rd ([y, m, d] : List Int) 1 = m := rfl
 have r2 : rd ([y, m, d] : List Int) 2 = d := rfl
 by_cases c : -100000 ≤ y ∧ y ≤ 100000 ∧ -100000 ≤ m ∧ m ≤ 100000 ∧ -100000 ≤ d ∧ d ≤ 100000
 ·obtain ⟨c1, c2, c3, c4, c5, c6⟩ := c
  have hd : dof y m d = (if 1900 ≤ y + (m - 1) / 12 ∧ y + (m - 1) / 12 ≤ 9999 ∧ 1 ≤ fst (y + (m - 1) / 12) ((m - 1) % 12 + 1) + d ∧ fst (y + (m - 1) / 12) ((m - 1) % 12 + 1) + d ≤ 2958464 then (fst (y + (m - 1) / 12) ((m - 1) % 12 + 1) + d, true) else (0, false)) := by
   rw [dof, if_neg (by simp [far]; omega)]
  rw [hd]
  have e : Ev (fun k => date_Of.l0 k y m d 3) (if 1900 ≤ y + (m - 1) / 12 ∧ y + (m - 1) / 12 ≤ 9999 ∧ 1 ≤ fst (y + (m - 1) / 12) ((m - 1) % 12 + 1) + d ∧ fst (y + (m - 1) / 12) ((m - 1) % 12 + 1) + d ≤ 2958464 then (fst (y + (m - 1) / 12) ((m - 1) % 12 + 1) + d, true) else (0, false)) := by
   have car := carried_is (y := y) (m := m) (by omega) (by omega) (by omega) (by omega)
   have hm' : 1 ≤ (m - 1) % 12 + 1 ∧ (m - 1) % 12 + 1 ≤ 12 := by omega
   by_cases cy : 1900 ≤ y + (m - 1) / 12 ∧ y + (m - 1) / 12 ≤ 9999
   ·have fb := fst_bd cy.1 cy.2 hm'.1 hm'.2
    have lb := last_bd (y + (m - 1) / 12) ((m - 1) % 12 + 1) hm'.1 hm'.2
    have q := Day_is (y + (m - 1) / 12) ((m - 1) % 12 + 1) 1
    rw [day_yes cy.1 cy.2 (by omega) (by omega)] at q
    have dd : dn (y + (m - 1) / 12) ((m - 1) % 12 + 1) 1 = fst (y + (m - 1) / 12) ((m - 1) % 12 + 1) + 1 := rfl
    rw [dd] at q
    generalize hF : fst (y + (m - 1) / 12) ((m - 1) % 12 + 1) = F at *
    refine E.succ (E.neg (by omega) (E.bindn car (Ev.bind q (E.pos rfl ?_))))
    have w : wrap64 (wrap64 (F + 1 + d) - 1) = F + d := by
     rw [E.w64 (x := F + 1 + d) (by omega) (by omega), E.w64 (by omega) (by omega)]; omega
    show Ev (fun _ => (date_good.f (wrap64 (wrap64 (F + 1 + d) - 1))).bind fun t257 => if t257 = true then some (wrap64 (wrap64 (F + 1 + d) - 1), true) else some (0, false)) _
    rw [w]
    refine E.bindn (good_is _) ?_
    by_cases cc : 1 ≤ F + d ∧ F + d ≤ 2958464
    ·have hr : (if 1900 ≤ y + (m - 1) / 12 ∧ y + (m - 1) / 12 ≤ 9999 ∧ 1 ≤ F + d ∧ F + d ≤ 2958464 then (F + d, true) else (0, false)) = (F + d, true) := if_pos ⟨cy.1, cy.2, cc.1, cc.2⟩
     rw [hr]
     exact E.pos (decide_eq_true cc) (Ev.now _)
    ·have hr : (if 1900 ≤ y + (m - 1) / 12 ∧ y + (m - 1) / 12 ≤ 9999 ∧ 1 ≤ F + d ∧ F + d ≤ 2958464 then (F + d, true) else (0, false)) = (0, false) := if_neg (fun q => cc ⟨q.2.2.1, q.2.2.2⟩)
     rw [hr]
     exact E.neg (by simpa using cc) (Ev.now _)
   ·have q := Day_is (y + (m - 1) / 12) ((m - 1) % 12 + 1) 1
    rw [day_no (by omega)] at q
    rw [if_neg (fun q => cy ⟨q.1, q.2.1⟩)]
    exact E.succ (E.neg (by omega) (E.bindn car (Ev.bind q (E.neg (by simp) (Ev.now _)))))
  unfold date_Of.f
  exact d_step (by omega) (by omega) r0 (fun h => by omega) (fun _ _ => d_step (by omega) (by omega) r1 (fun h => by omega) (fun _ _ => d_step (by omega) (by omega) r2 (fun h => by omega) (fun _ _ => e)))
 ·have hd : dof y m d = (0, false) := by rw [dof, if_pos (by simp [far]; omega)]
  rw [hd]
  unfold date_Of.f
  exact d_step (by omega) (by omega) r0 (fun h => rfl) (fun _ _ => d_step (by omega) (by omega) r1 (fun h => rfl) (fun _ _ => d_step (by omega) (by omega) r2 (fun h => rfl) (fun _ _ => by omega)))
theorem dof_bd (y m d : Int) : 0 ≤ (dof y m d).1 ∧ (dof y m d).1 ≤ 2958464 := by
 unfold dof
 split
 ·simp
 ·split
  ·rename_i h
   exact ⟨by simp only; omega, by simp only; omega⟩
  ·simp
noncomputable def prt3 (a : Int) : Int × Int × Int := if h : 1 ≤ a ∧ a ≤ 2958464 then (Classical.choose (Is_ex h.1 h.2), Classical.choose (Classical.choose_spec (Is_ex h.1 h.2)), Classical.choose (Classical.choose_spec (Classical.choose_spec (Is_ex h.1 h.2)))) else (0, 0, 0)
theorem prt3_is {a : Int} (h1 : 1 ≤ a) (h2 : a ≤ 2958464) : Is a (prt3 a).1 (prt3 a).2.1 (prt3 a).2.2 := by
 rw [prt3, dif_pos ⟨h1, h2⟩]
 exact Classical.choose_spec (Classical.choose_spec (Classical.choose_spec (Is_ex h1 h2)))
theorem prt3_eq {a y m d : Int} (h : Is a y m d) : prt3 a = (y, m, d) := by
 have hr := h.range
 obtain ⟨e1, e2, e3⟩ := (prt3_is hr.1 hr.2).uniq h
 rw [← e1, ← e2, ← e3]
theorem Is.bd {a y m d : Int} (h : Is a y m d) : 1900 ≤ y ∧ y ≤ 9999 ∧ 1 ≤ m ∧ m ≤ 12 ∧ 1 ≤ d ∧ d ≤ 31 := by
 obtain ⟨h1, h2, h3, h4, h5, h6, h7⟩ := h
 have lb := last_bd y m h3 h4
 omega
noncomputable def mnt (a n : Int) (e : Bool) : Int × Bool := if far n then (0, false) else mon (prt3 a).1 (prt3 a).2.1 (prt3 a).2.2 n e
theorem Mnt_is {a n : Int} (e : Bool) (h1 : 1 ≤ a) (h2 : a ≤ 2958464) : Ev (fun k => date_Months.f k a n e) (mnt a n e) := by
 have h := prt3_is h1 h2
 unfold mnt
 split
 ·rename_i hf
  exact Months_far e h (by simpa [far] using hf)
 ·rename_i hf
  have : -100000 ≤ n ∧ n ≤ 100000 := by simp [far] at hf; omega
  exact Months_is e h this.1 this.2
theorem day_bd (y m d : Int) : 0 ≤ (day y m d).1 ∧ (day y m d).1 ≤ 2958464 := by
 unfold day
 split
 ·rename_i h
  obtain ⟨e1, e2, e3⟩ := last_out h.2.2.1 h.2.2.2
  have := Is.range (show Is (dn y m d) y m d from ⟨h.1, h.2.1, e1, e2, h.2.2.1, h.2.2.2, rfl⟩)
  exact ⟨by simp only; omega, by simp only; omega⟩
 ·simp
theorem mnt_bd (a n : Int) (e : Bool) : 0 ≤ (mnt a n e).1 ∧ (mnt a n e).1 ≤ 2958464 := by
 unfold mnt mon
 simp only
 split
 ·simp
 ·split
  ·exact day_bd _ _ _
  ·exact day_bd _ _ _
end Go.Proofs.YtllceoncpgebpaaGreatDoor.Lg
