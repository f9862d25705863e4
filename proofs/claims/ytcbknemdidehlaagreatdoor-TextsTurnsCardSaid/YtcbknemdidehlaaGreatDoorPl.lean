/- What the functions come to, in plain words. -/
import Derived.Test.YtcbknemdidehlaaGreatDoorPx0
import Derived.Test.YtcbknemdidehlaaGreatDoorX
import Derived.Lib.Mul64
import Derived.Laws.Bits64
import Derived.Test.YtcbknemdidehlaaGreatDoorPx1
import Derived.Test.YtcbknemdidehlaaGreatDoorPx2
import Derived.Laws.Strings
import Derived.Test.YtcbknemdidehlaaGreatDoorY
import Derived.Test.YtcbknemdidehlaaGreatDoorPx4
import Derived.Test.YtcbknemdidehlaaGreatDoorPx3
/- Small words on rounds: what a printed function comes to, given rounds enough. -/
namespace Go.Proofs.YtcbknemdidehlaaGreatDoor.E
open Go.RowKit Go.Proofs.YtcbknemdidehlaaGreatDoorW.PrintWords
set_option linter.unusedVariables false
set_option linter.unusedSimpArgs false

theorem pos {α : Type} {c : Prop} [Decidable c] {g f : Nat → Option α} {r : α} (h : c) (k : Ev g r) : Ev (fun n => if c then g n else f n) r := Ev.congr (fun _ => if_pos h) k
theorem neg {α : Type} {c : Prop} [Decidable c] {g f : Nat → Option α} {r : α} (h : ¬ c) (k : Ev f r) : Ev (fun n => if c then g n else f n) r := Ev.congr (fun _ => if_neg h) k
theorem ite {α : Type} {c : Prop} [Decidable c] {g f : Nat → Option α} {r : α} (h : c → Ev g r) (k : ¬ c → Ev f r) : Ev (fun n => if c then g n else f n) r := by
  by_cases e : c
  · exact pos e (h e)
  · exact neg e (k e)
theorem now {α : Type} {r r' : α} (h : r = r') : Ev (fun _ => some r) r' := h ▸ Ev.now r
theorem bindn {α β : Type} {o : Option α} {f : Nat → α → Option β} {a : α} {r : β} (h : o = some a) (k : Ev (fun n => f n a) r) : Ev (fun n => o.bind (f n)) r := by
  subst h; exact k
theorem is {α : Type} {g : Nat → Option α} {r r' : α} (h : Ev g r) (e : r = r') : Ev g r' := e ▸ h
theorem uniq {α : Type} {g : Nat → Option α} {r r' : α} (h : Ev g r) (h' : Ev g r') : r = r' := by
  obtain ⟨K, hK⟩ := h; obtain ⟨K', hK'⟩ := h'
  have a := hK (max K K') (Nat.le_max_left _ _); have b := hK' (max K K') (Nat.le_max_right _ _)
  exact Option.some.inj (a.symm.trans b)
/-- what a function that runs at least once does: its text at one round less -/
theorem succ {α : Type} {g : Nat → Option α} {r : α} (k : Ev (fun n => g (n + 1)) r) : Ev g r := Ev.step (fun _ => rfl) k
theorem w64 {x : Int} (h : -9223372036854775808 ≤ x) (k : x ≤ 9223372036854775807) : wrap64 x = x := by
  unfold wrap64
  omega
end Go.Proofs.YtcbknemdidehlaaGreatDoor.E

/- What the short functions on numbers come to: good ones, floors, rounding. -/
namespace Go.Proofs.YtcbknemdidehlaaGreatDoor.Nm
open Go.RowKit Go.Proofs.YtcbknemdidehlaaGreatDoor.P Go.Proofs.YtcbknemdidehlaaGreatDoorW.PrintWords Go.Proofs.YtcbknemdidehlaaGreatDoorW.PrintLast
set_option linter.unusedVariables false
set_option linter.unusedSimpArgs false

abbrev good (n : Int) : Prop := -100000000000 ≤ n ∧ n ≤ 100000000000
/-- an answer, if it is good -/
def out (n : Int) : Int × Bool := if good n then (n, true) else (0, false)
end Go.Proofs.YtcbknemdidehlaaGreatDoor.Nm

/- What the products and quotients of 128 bits come to, as far as numbers need them. -/
namespace Go.Proofs.YtcbknemdidehlaaGreatDoor.Nm
open Go.RowKit Go.Proofs.YtcbknemdidehlaaGreatDoor.P Go.Proofs.YtcbknemdidehlaaGreatDoorW.PrintWords Go.Proofs.YtcbknemdidehlaaGreatDoorW.PrintLast
set_option linter.unusedVariables false
set_option linter.unusedSimpArgs false

theorem wu {x : Int} (h : 0 ≤ x) (k : x ≤ 18446744073709551615) : IntKind.u64.wrap x = x := by rw [IntKind.wrap_u64]; omega
end Go.Proofs.YtcbknemdidehlaaGreatDoor.Nm

/- What products, quotients and rests of numbers come to, in the program and in the document's answer. -/
namespace Go.Proofs.YtcbknemdidehlaaGreatDoor.Nm
open Go.RowKit Go.Proofs.YtcbknemdidehlaaGreatDoor.P Go.Proofs.YtcbknemdidehlaaGreatDoorW.PrintWords Go.Proofs.YtcbknemdidehlaaGreatDoorW.PrintLast
set_option linter.unusedVariables false
set_option linter.unusedSimpArgs false

def ab (n : Int) : Int := if n < 0 then -n else n
theorem ab_bd {n : Int} (g : good n) : 0 ≤ ab n ∧ ab n ≤ 100000000000 := by unfold good at g; unfold ab; split <;> omega
theorem size_is {n : Int} (h : -9223372036854775808 ≤ n) (k : n ≤ 9223372036854775807) : num_size.f n = some (ab n) := by
  unfold num_size.f ab
  by_cases c : n < 0
  · rw [if_pos c, if_pos c]
    simp only [IntKind.wrap_u64, Option.some.injEq]
    omega
  · rw [if_neg c, if_neg c]
    simp only [IntKind.wrap_u64, Option.some.injEq]
    omega
end Go.Proofs.YtcbknemdidehlaaGreatDoor.Nm

/- What sums, rests, whole quotients and powers come to, in the program and in the document's answer. -/
namespace Go.Proofs.YtcbknemdidehlaaGreatDoor.Nm
open Go.RowKit Go.Proofs.YtcbknemdidehlaaGreatDoor.P Go.Proofs.YtcbknemdidehlaaGreatDoorW.PrintWords Go.Proofs.YtcbknemdidehlaaGreatDoorW.PrintLast
set_option linter.unusedVariables false
set_option linter.unusedSimpArgs false

theorem out_yes' {n : Int} (g : good n) : out n = (n, true) := if_pos g
end Go.Proofs.YtcbknemdidehlaaGreatDoor.Nm

/- What the text of a number comes to, in the program and in the document's answer. -/
namespace Go.Proofs.YtcbknemdidehlaaGreatDoor.Nm
open Go.RowKit Go.Proofs.YtcbknemdidehlaaGreatDoor.P Go.Proofs.YtcbknemdidehlaaGreatDoorW.PrintWords Go.Proofs.YtcbknemdidehlaaGreatDoorW.PrintLast
set_option linter.unusedVariables false
set_option linter.unusedSimpArgs false

theorem son_append (x y : List Int) : strOfNums x ++ strOfNums y = strOfNums (x ++ y) := by
  apply ByteArray.ext
  simp [strOfNums, ByteArray.data_append]
theorem son_size (x : List Int) : (strOfNums x).size = x.length := by simp [strOfNums, ByteArray.size]

/-- the digits of a number below 10 ^ (m + 1), ahead of others -/
def dig : Nat → Int → List Int → List Int
  | 0, u, L => (48 + u % 10) :: L
  | m + 1, u, L => if u / 10 = 0 then (48 + u % 10) :: L else dig m (u / 10) ((48 + u % 10) :: L)
theorem ten_succ (m : Nat) : (10 : Int) ^ (m + 1) = 10 * 10 ^ m := by rw [Int.pow_succ, Int.mul_comm]
theorem dig_len : ∀ (m : Nat) (u : Int) (L : List Int), L.length + 1 ≤ (dig m u L).length ∧ (dig m u L).length ≤ L.length + m + 1 := by
  intro m
  induction m with
  | zero => intro u L; simp [dig]
  | succ m ih =>
    intro u L
    unfold dig
    split
    · simp
    · have := ih (u / 10) ((48 + u % 10) :: L)
      simp only [List.length_cons] at this
      omega
theorem dec_l : ∀ (m : Nat) (u : Int) (L : List Int), 0 ≤ u → u < 10 ^ (m + 1) → L.length + m < 20 → Ev (fun k => num_decimal.l0 k L u) (strOfNums (dig m u L)) := by
  intro m
  induction m with
  | zero =>
    intro u L h k hl
    exact E.succ (E.pos (by omega) (E.pos (by omega) (Ev.now _)))
  | succ m ih =>
    intro u L h k hl
    rw [ten_succ] at k
    refine E.succ (E.pos (by omega) ?_)
    unfold dig
    refine E.ite (fun c => by rw [if_pos c]; exact Ev.now _) (fun c => ?_)
    rw [if_neg c]
    exact ih (u / 10) _ (by omega) (by omega) (by simp only [List.length_cons]; omega)
theorem dec_is {m : Nat} {u : Int} (h : 0 ≤ u) (k : u < 10 ^ (m + 1)) (hm : m < 20) (b : u ≤ 18446744073709551615) : Ev (fun k => num_decimal.f k u) (strOfNums (dig m u [])) :=
  E.pos h (E.pos b (dec_l m u [] h k (by simpa using hm)))
theorem rdig_l : ∀ (m : Nat) (u : Int) (L : List Int), 0 ≤ u → u < 10 ^ (m + 1) → u ≤ 18446744073709551615 → L.length + m < 100 → Ev (fun k => octavoref05_Digits.l0 k u (strOfNums L)) (strOfNums (dig m u L)) := by
  have one : ∀ (u : Int) (L : List Int) (r : ByteArray), 0 ≤ u → u ≤ 18446744073709551615 → L.length < 100 → (if u / 10 = 0 then r = strOfNums ((48 + u % 10) :: L) else Ev (fun k => octavoref05_Digits.l0 k (u / 10) (strOfNums ((48 + u % 10) :: L))) r) → Ev (fun k => octavoref05_Digits.l0 k u (strOfNums L)) r := by
    intro u L r h b hl g
    refine E.succ ?_
    simp only [octavoref05_Digits.l0, Option.bind_some]
    rw [show Int.tmod u 10 = u % 10 from Int.tmod_eq_emod_of_nonneg h, show Int.tdiv u 10 = u / 10 from Int.tdiv_eq_ediv_of_nonneg h, wu (x := 48 + u % 10) (by omega) (by omega), wu (x := u / 10) (by omega) (by omega), son_append, show (48 + u % 10) % 256 = 48 + u % 10 by omega]
    refine E.pos (by rw [son_size, son_size]; simp; omega) ?_
    by_cases c : u / 10 = 0
    · rw [if_pos c] at g; exact E.pos c (E.now g.symm)
    · rw [if_neg c] at g; exact E.neg c g
  intro m
  induction m with
  | zero =>
    intro u L h k b hl
    exact one u L _ h b (by omega) (by rw [if_pos (by omega)]; rfl)
  | succ m ih =>
    intro u L h k b hl
    rw [ten_succ] at k
    refine one u L _ h b (by omega) ?_
    unfold dig
    by_cases c : u / 10 = 0
    · rw [if_pos c, if_pos c]
    · rw [if_neg c, if_neg c]
      exact ih (u / 10) _ (by omega) (by omega) (by omega) (by simp only [List.length_cons]; omega)
theorem rdig_is {m : Nat} {u : Int} (h : 0 ≤ u) (k : u < 10 ^ (m + 1)) (hm : m < 100) (b : u ≤ 18446744073709551615) : Ev (fun k => octavoref05_Digits.f k u) (strOfNums (dig m u [])) :=
  rdig_l m u [] h k b (by simpa using hm)

/-! ### noughts at the end -/
theorem nil_iff (x : ByteArray) : x.toList = ([] : List UInt8) ↔ x.size = 0 := by
  rw [ByteArray.toList_eq, ← List.length_eq_zero_iff, Array.length_toList]
  rfl
theorem bt_extract (s : ByteArray) (a b : Nat) (i : Int) (h : b ≤ s.size) (h0 : 0 ≤ i) (hi : a + i < b) : bt (s.extract a b) i = bt s (a + i) := by
  have h1 : i.toNat < (s.extract a b).size := by rw [ByteArray.size_extract]; omega
  have h2 : ((a : Int) + i).toNat < s.size := by omega
  unfold bt
  rw [dif_pos h1, dif_pos h2]
  congr 2
  rw [ByteArray.getElem_extract]
  congr 1
  omega

/-- what the document's answer makes of the trimmed rest -/
def dot (x y : ByteArray) : ByteArray := if y.size = 0 then x else x ++ ((⟨#[46]⟩ : ByteArray) ++ y)
theorem trim_l : ∀ (n : Nat) (x : ByteArray), x.size = n → n ≤ 100 → ∃ y : ByteArray, Ev (fun k => strings_trimRightByte.l0 k x 48) y ∧ y.size ≤ x.size ∧
    (∀ z : ByteArray, z.size ≤ 100 → Ev (fun k => octavoref05_Print.l0 k z x) (dot z y)) ∧ (y.size = 0 ↔ ∀ i : Int, 0 ≤ i → i < n → bt x i = 48) := by
  intro n
  induction n with
  | zero =>
    intro x hx hn
    refine ⟨x, E.succ (E.neg (by omega) (Ev.now _)), Nat.le_refl _, fun z hz => ?_, by simp [hx]; intro i a b; omega⟩
    unfold dot
    rw [if_pos hx]
    exact E.succ (E.neg (by omega) (E.pos ((nil_iff x).2 hx) (Ev.now _)))
  | succ n ih =>
    intro x hx hn
    have w : wrap64 ((x.size : Int) - 1) = n := by rw [E.w64 (by omega) (by omega)]; omega
    by_cases c : bt x n = 48
    · have sz : (x.extract 0 n).size = n := by rw [ByteArray.size_extract]; omega
      obtain ⟨y, y1, y2, y3, y4⟩ := ih (x.extract 0 n) sz (by omega)
      refine ⟨y, ?_, by omega, fun z hz => ?_, ?_⟩
      · refine E.succ (E.pos (by omega) ?_)
        rw [w]
        refine E.pos (by omega) (E.pos (by omega) (E.pos c (E.pos (by omega) ?_)))
        rw [show ((n : Int)).toNat = n by omega]
        exact y1
      · refine E.succ (E.pos (by omega) ?_)
        rw [w]
        refine E.pos (by omega) (E.pos (by omega) (E.pos c (E.pos (by omega) ?_)))
        rw [show ((n : Int)).toNat = n by omega]
        exact y3 z hz
      · rw [y4]
        refine ⟨fun h i a b => ?_, fun h i a b => ?_⟩
        · by_cases e : i = n
          · rw [e]; exact c
          · have := h i a (by omega)
            rw [bt_extract x 0 n i (by omega) a (by omega), show ((0 : Nat) : Int) + i = i by omega] at this
            exact this
        · rw [bt_extract x 0 n i (by omega) a (by omega), show ((0 : Nat) : Int) + i = i by omega]
          exact h i a (by omega)
    · refine ⟨x, ?_, Nat.le_refl _, fun z hz => ?_, ⟨fun h => by omega, fun h => absurd (h n (by omega) (by omega)) c⟩⟩
      · refine E.succ (E.pos (by omega) ?_)
        rw [w]
        exact E.pos (by omega) (E.pos (by omega) (E.neg c (Ev.now _)))
      · unfold dot
        rw [if_neg (by omega)]
        refine E.succ (E.pos (by omega) ?_)
        rw [w]
        refine E.pos (by omega) (E.pos (by omega) (E.neg c (E.neg (fun h => by have := (nil_iff x).1 h; omega) ?_)))
        have s1 : ((⟨#[46]⟩ : ByteArray) ++ x).size = 1 + x.size := by rw [ByteArray.size_append]; rfl
        exact E.pos (by omega) (E.pos (by rw [s1]; omega) (Ev.now _))
theorem trim_is {x y : ByteArray} (h : x.size ≠ 0) (t : Ev (fun k => strings_trimRightByte.l0 k x 48) y) : Ev (fun k => strings_TrimRight.f k x (⟨#[48]⟩ : ByteArray)) y := by
  refine E.neg (fun e => h ((nil_iff x).1 e)) ?_
  have e0 : ((⟨#[48]⟩ : ByteArray).toList == ([] : List UInt8)) = false := by decide +kernel
  have e1 : bt (⟨#[48]⟩ : ByteArray) 0 = 48 := by decide +kernel
  rw [e0]
  refine E.succ ?_
  simp only [strings_TrimRight.j0, e1]
  refine E.neg (by simp) (E.pos (by decide) (E.pos (by decide) (E.succ ?_)))
  simp only [strings_TrimRight.j1, e1]
  refine E.pos (by decide) (E.pos (by decide) (Ev.bind (a := y) ?_ (Ev.now _)))
  exact t

/-- the four digits behind the point -/
theorem dig4 {r : Int} (h : 0 ≤ r) (k : r < 10000) : dig 4 (r + 10000) [] = [49, 48 + r / 1000, 48 + r / 100 % 10, 48 + r / 10 % 10, 48 + r % 10] := by
  simp only [dig]
  rw [if_neg (by omega), if_neg (by omega), if_neg (by omega), if_neg (by omega)]
  simp only [List.cons.injEq, and_true]
  omega
theorem rest4 {r : Int} (h : 0 ≤ r) (k : r < 10000) : (strOfNums (dig 4 (r + 10000) [])).extract 1 (strOfNums (dig 4 (r + 10000) [])).size = strOfNums [48 + r / 1000, 48 + r / 100 % 10, 48 + r / 10 % 10, 48 + r % 10] := by
  rw [dig4 h k]
  rw [son_size]
  apply ByteArray.ext
  simp [strOfNums]
theorem bt_son (L : List Int) (i : Nat) (h : i < L.length) (hb : 0 ≤ L[i] ∧ L[i] ≤ 255) : bt (strOfNums L) (i : Int) = L[i] := by
  have h1 : i < (strOfNums L).size := by rw [son_size]; exact h
  have e : (strOfNums L)[i]'h1 = UInt8.ofNat (L[i].toNat) := by
    show (strOfNums L).data[i]'h1 = _
    simp [strOfNums]
  rw [← bt_at (strOfNums L) (i : Int) h1]
  show (((strOfNums L)[i]'h1).toNat : Int) = _
  rw [e, UInt8.toNat_ofNat']
  omega
theorem rest_bt {r : Int} (h : 0 ≤ r) (k : r < 10000) : (∀ i : Int, 0 ≤ i → i < 4 → bt (strOfNums [48 + r / 1000, 48 + r / 100 % 10, 48 + r / 10 % 10, 48 + r % 10]) i = 48) ↔ r = 0 := by
  have b0 : bt (strOfNums [48 + r / 1000, 48 + r / 100 % 10, 48 + r / 10 % 10, 48 + r % 10]) 0 = 48 + r / 1000 := bt_son _ 0 (by simp) (by simp; omega)
  have b1 : bt (strOfNums [48 + r / 1000, 48 + r / 100 % 10, 48 + r / 10 % 10, 48 + r % 10]) 1 = 48 + r / 100 % 10 := bt_son _ 1 (by simp) (by simp; omega)
  have b2 : bt (strOfNums [48 + r / 1000, 48 + r / 100 % 10, 48 + r / 10 % 10, 48 + r % 10]) 2 = 48 + r / 10 % 10 := bt_son _ 2 (by simp) (by simp; omega)
  have b3 : bt (strOfNums [48 + r / 1000, 48 + r / 100 % 10, 48 + r / 10 % 10, 48 + r % 10]) 3 = 48 + r % 10 := bt_son _ 3 (by simp) (by simp; omega)
  constructor
  · intro a
    have c0 := a 0 (by omega) (by omega)
    have c1 := a 1 (by omega) (by omega)
    have c2 := a 2 (by omega) (by omega)
    have c3 := a 3 (by omega) (by omega)
    omega
  · intro e i i0 i4
    rcases (show i = 0 ∨ i = 1 ∨ i = 2 ∨ i = 3 by omega) with rfl | rfl | rfl | rfl <;> omega

theorem Print_is (n : Int) (h : -9223372036854775808 ≤ n) (k : n ≤ 9223372036854775807) : ∃ s : ByteArray, Ev (fun j => num_Print.f j n) s ∧ Ev (fun j => octavoref05_Print.f j n) s ∧
    ∃ y : ByteArray, (∃ x : ByteArray, x = strOfNums [48 + ab n % 10000 / 1000, 48 + ab n % 10000 / 100 % 10, 48 + ab n % 10000 / 10 % 10, 48 + ab n % 10000 % 10] ∧ Ev (fun k => strings_trimRightByte.l0 k x 48) y) ∧ s = dot (strOfNums ((if n < 0 then [45] else []) ++ dig 15 (ab n / 10000) [])) y := by
  have ba : 0 ≤ ab n ∧ ab n ≤ 9223372036854775808 := by unfold ab; split <;> omega
  have p16 : (10 : Int) ^ (15 + 1) = 10000000000000000 := by decide
  have p5 : (10 : Int) ^ (4 + 1) = 100000 := by decide
  have td : Int.tdiv (ab n) 10000 = ab n / 10000 := Int.tdiv_eq_ediv_of_nonneg ba.1
  have tm : Int.tmod (ab n) 10000 = ab n % 10000 := Int.tmod_eq_emod_of_nonneg ba.1
  obtain ⟨y, y1, y2, y3, y4⟩ := trim_l 4 (strOfNums [48 + ab n % 10000 / 1000, 48 + ab n % 10000 / 100 % 10, 48 + ab n % 10000 / 10 % 10, 48 + ab n % 10000 % 10]) (by rw [son_size]; rfl) (by omega)
  have y4 := Iff.trans y4 (rest_bt (r := ab n % 10000) (by omega) (by omega))
  rw [son_size] at y2
  have y2' : y.size ≤ 4 := y2
  have re := rest4 (r := ab n % 10000) (by omega) (by omega)
  have d1 := dec_is (m := 15) (u := ab n / 10000) (by omega) (by rw [p16]; omega) (by omega) (by omega)
  have d2 := dec_is (m := 4) (u := ab n % 10000 + 10000) (by omega) (by rw [p5]; omega) (by omega) (by omega)
  have e1 := rdig_is (m := 15) (u := ab n / 10000) (by omega) (by rw [p16]; omega) (by omega) (by omega)
  have e2 := rdig_is (m := 4) (u := ab n % 10000 + 10000) (by omega) (by rw [p5]; omega) (by omega) (by omega)
  have sl := dig_len 15 (ab n / 10000) []
  simp only [List.length_nil] at sl
  have s5 : (strOfNums (dig 4 (ab n % 10000 + 10000) [])).size = 5 := by rw [dig4 (by omega) (by omega), son_size]; rfl
  refine ⟨_, ?_, ?_, y, ⟨_, rfl, y1⟩, rfl⟩
  · refine E.bindn (size_is h k) ?_
    rw [td, tm, wu (x := ab n / 10000) (by omega) (by omega), wu (x := ab n % 10000 + 10000) (by omega) (by omega)]
    refine Ev.bind d1 (E.ite (fun c => ?_) (fun c => ?_))
    · have ny : ¬ y.size = 0 := fun e => by have := y4.1 e; omega
      refine Ev.bind d2 (E.pos (by omega) ?_)
      rw [re]
      have q1 : ((⟨#[46]⟩ : ByteArray) ++ y).size = 1 + y.size := by rw [ByteArray.size_append]; rfl
      refine Ev.bind (trim_is (by rw [son_size]; simp) y1) (E.pos (by omega) (E.pos (by rw [son_size, q1]; omega) ?_))
      unfold dot
      rw [if_neg ny]
      have q2 : (strOfNums (dig 15 (ab n / 10000) []) ++ ((⟨#[46]⟩ : ByteArray) ++ y)).size = (dig 15 (ab n / 10000) []).length + (1 + y.size) := by rw [ByteArray.size_append, son_size, q1]
      refine E.ite (fun z => E.pos (by rw [q2]; omega) (E.now ?_)) (fun z => E.now ?_)
      · rw [if_pos z, ← son_append, ByteArray.append_assoc]; rfl
      · rw [if_neg z]; rfl
    · have ny : y.size = 0 := y4.2 (by omega)
      unfold dot
      rw [if_pos ny]
      refine E.ite (fun z => E.pos (by rw [son_size]; omega) (E.now ?_)) (fun z => E.now ?_)
      · rw [if_pos z, ← son_append]; rfl
      · rw [if_neg z]; rfl
  · have j0 : ∀ (L : List Int), L.length ≤ 1 → Ev (fun j => octavoref05_Print.j0 j (strOfNums L) (ab n)) (dot (strOfNums (L ++ dig 15 (ab n / 10000) [])) y) := fun L hL => by
      refine E.succ ?_
      simp only [octavoref05_Print.j0]
      rw [td, tm, wu (x := ab n / 10000) (by omega) (by omega), wu (x := ab n % 10000 + 10000) (by omega) (by omega)]
      refine Ev.bind e1 (E.pos (by rw [son_size, son_size]; omega) (Ev.bind e2 (E.pos (by omega) ?_)))
      rw [re, son_append]
      exact y3 _ (by rw [son_size, List.length_append]; omega)
    refine E.ite (fun z => ?_) (fun z => ?_)
    · rw [if_pos z, show IntKind.u64.wrap (IntKind.u64.wrap (wrap64 (-wrap64 (n + 1))) + 1) = ab n by
        rw [E.w64 (x := n + 1) (by omega) (by omega), E.w64 (x := -(n + 1)) (by omega) (by omega), wu (x := -(n + 1)) (by omega) (by omega), wu (by omega) (by omega)]
        unfold ab; rw [if_pos z]; omega]
      exact j0 [45] (by simp)
    · rw [if_neg z, show IntKind.u64.wrap n = ab n by rw [wu (by omega) (by omega)]; unfold ab; rw [if_neg z]]
      exact j0 [] (by simp)
end Go.Proofs.YtcbknemdidehlaaGreatDoor.Nm

/- What the number of a text comes to, in the program and in the document's answer. -/
namespace Go.Proofs.YtcbknemdidehlaaGreatDoor.Nm
open Go.RowKit Go.Proofs.YtcbknemdidehlaaGreatDoor.P Go.Proofs.YtcbknemdidehlaaGreatDoorW.PrintWords Go.Proofs.YtcbknemdidehlaaGreatDoorW.PrintLast
set_option linter.unusedVariables false
set_option linter.unusedSimpArgs false

/-- are all bytes digits? -/
def dgs : List UInt8 → Bool
  | [] => true
  | c :: l => decide (48 ≤ (c.toNat : Int) ∧ (c.toNat : Int) ≤ 57) && dgs l
/-- the number of digits, from n on -/
def val : List UInt8 → Int → Int
  | [], n => n
  | c :: l, n => val l (10 * n + ((c.toNat : Int) - 48))
theorem val_append : ∀ (a b : List UInt8) (n : Int), val (a ++ b) n = val b (val a n) := by
  intro a
  induction a with
  | nil => intro b n; rfl
  | cons c a ih => intro b n; exact ih b _
theorem dgs_append : ∀ (a b : List UInt8), dgs (a ++ b) = (dgs a && dgs b) := by
  intro a
  induction a with
  | nil => intro b; rfl
  | cons c a ih => intro b; simp only [List.cons_append, dgs, ih, Bool.and_assoc]
/-- so many digits, from least to most? -/
def okd (s : ByteArray) (a b : Int) : Bool := dgs s.data.toList && (decide (a ≤ (s.size : Int)) && decide ((s.size : Int) ≤ b))
theorem sz (s : ByteArray) : s.data.toList.length = s.size := by rw [Array.length_toList]; rfl
theorem bt_get {s : ByteArray} {i : Nat} (h : i < s.size) : bt s (i : Int) = ((s[i]'h).toNat : Int) := (bt_at s i h).symm

def sg (neg : Bool) (n : Int) : Int × Bool := out (if neg = true then -n else n)
/-- the number of a text's parts -/
def fin (neg : Bool) (W R : ByteArray) (point : Bool) : Int × Bool :=
  if okd W 1 12 = true ∧ (point = true → okd R 1 4 = true) then sg neg (val W.data.toList 0 * 10000 + val R.data.toList 0 * 10 ^ (4 - R.size)) else (0, false)

end Go.Proofs.YtcbknemdidehlaaGreatDoor.Nm

/- The number of any text, in the program and in the document's answer. -/
namespace Go.Proofs.YtcbknemdidehlaaGreatDoor.Nm
open Go.RowKit Go.Proofs.YtcbknemdidehlaaGreatDoor.P Go.Proofs.YtcbknemdidehlaaGreatDoorW.PrintWords Go.Proofs.YtcbknemdidehlaaGreatDoorW.PrintLast
set_option linter.unusedVariables false
set_option linter.unusedSimpArgs false

theorem idx_cons (b c : UInt8) (l : List UInt8) : Lib.indexByte (b :: l) c = if b = c then 0 else if Lib.indexByte l c = -1 then -1 else Lib.indexByte l c + 1 := by
  show (if b == c then (0 : Int) else if Lib.indexByte l c == -1 then -1 else Lib.indexByte l c + 1) = _
  simp only [beq_iff_eq]

/-- does a text begin with a sign? what is left then -/
def ng (s : ByteArray) : Bool := decide (0 < s.size ∧ bt s 0 = 45)
def body (s : ByteArray) : ByteArray := if ng s = true then s.extract 1 s.size else s
def mid (t : ByteArray) : Int := Lib.indexByte t.data.toList 46
/-- the number of a text -/
def prs (s : ByteArray) : Int × Bool :=
  if 0 ≤ mid (body s) then fin (ng s) ((body s).extract 0 (mid (body s)).toNat) ((body s).extract (mid (body s) + 1).toNat (body s).size) true else fin (ng s) (body s) (⟨#[]⟩ : ByteArray) false

theorem u8_eq {a : UInt8} {n : Nat} (hn : n < 256) : (a.toNat : Int) = n ↔ a = UInt8.ofNat n := by
  constructor
  · intro h
    apply UInt8.toNat_inj.1
    rw [UInt8.toNat_ofNat']
    omega
  · intro h
    rw [h, UInt8.toNat_ofNat']
    omega
end Go.Proofs.YtcbknemdidehlaaGreatDoor.Nm

/- Texts lead back, sums and products are turned back, a rest lies between 0 and the divisor, a root's square is not above: for all ints of int's kind. -/
namespace Go.Proofs.YtcbknemdidehlaaGreatDoor.Pure
open Go.RowKit Go.Proofs.YtcbknemdidehlaaGreatDoor.P Go.Proofs.YtcbknemdidehlaaGreatDoor.Nm Go.Proofs.YtcbknemdidehlaaGreatDoorW.PrintWords Go.Proofs.YtcbknemdidehlaaGreatDoorW.PrintLast
set_option linter.unusedVariables false
set_option linter.unusedSimpArgs false

/-! ### a text's bytes -/
def by8 (L : List Int) : List UInt8 := L.map fun n => UInt8.ofNat n.toNat
theorem son_bytes (L : List Int) : (strOfNums L).data.toList = by8 L := rfl
/-- are all digits? -/
def dgi (L : List Int) : Prop := ∀ x ∈ L, 48 ≤ x ∧ x ≤ 57
theorem u8n {x : Int} (h : 0 ≤ x) (k : x ≤ 255) : ((UInt8.ofNat x.toNat).toNat : Int) = x := by
  rw [UInt8.toNat_ofNat']; omega
theorem by_dgs : ∀ (L : List Int), dgi L → dgs (by8 L) = true := by
  intro L
  induction L with
  | nil => intro _; rfl
  | cons x L ih =>
    intro h
    have hx := h x (by simp)
    show (decide (48 ≤ ((UInt8.ofNat x.toNat).toNat : Int) ∧ ((UInt8.ofNat x.toNat).toNat : Int) ≤ 57) && dgs (by8 L)) = true
    rw [u8n (by omega) (by omega), decide_eq_true (by omega), ih (fun y hy => h y (by simp [hy]))]
    rfl
theorem dig_dgi : ∀ (m : Nat) (u : Int) (L : List Int), 0 ≤ u → dgi L → dgi (dig m u L) := by
  have one : ∀ (u : Int) (L : List Int), 0 ≤ u → dgi L → dgi ((48 + u % 10) :: L) := fun u L h d x hx => by
    rcases List.mem_cons.1 hx with e | e
    · omega
    · exact d x e
  intro m
  induction m with
  | zero => intro u L h d; exact one u L h d
  | succ m ih =>
    intro u L h d
    unfold dig
    split
    · exact one u L h d
    · exact ih _ _ (by omega) (one u L h d)
theorem dig_val : ∀ (m : Nat) (u : Int) (L : List Int), 0 ≤ u → u < 10 ^ (m + 1) → val (by8 (dig m u L)) 0 = val (by8 L) u := by
  have one : ∀ (u : Int) (L : List Int) (n : Int), 0 ≤ u → val (by8 ((48 + u % 10) :: L)) n = val (by8 L) (10 * n + u % 10) := fun u L n h => by
    show val (by8 L) (10 * n + (((UInt8.ofNat (48 + u % 10).toNat).toNat : Int) - 48)) = _
    rw [u8n (by omega) (by omega), show 48 + u % 10 - 48 = u % 10 by omega]
  intro m
  induction m with
  | zero =>
    intro u L h k
    show val (by8 ((48 + u % 10) :: L)) 0 = _
    rw [one u L 0 h, show 10 * 0 + u % 10 = u by omega]
  | succ m ih =>
    intro u L h k
    rw [ten_succ] at k
    unfold dig
    by_cases c : u / 10 = 0
    · rw [if_pos c, one u L 0 h, show 10 * 0 + u % 10 = u by omega]
    · rw [if_neg c, ih _ _ (by omega) (by omega), one u L _ h, show 10 * (u / 10) + u % 10 = u by omega]
theorem dig_len2 : ∀ (m j : Nat) (u : Int) (L : List Int), 0 ≤ u → u < 10 ^ (j + 1) → (dig m u L).length ≤ L.length + j + 1 := by
  intro m
  induction m with
  | zero => intro j u L h k; simp [dig]
  | succ m ih =>
    intro j u L h k
    unfold dig
    by_cases c : u / 10 = 0
    · rw [if_pos c]; simp only [List.length_cons]; omega
    · rw [if_neg c]
      cases j with
      | zero => exfalso; have : u < 10 := k; omega
      | succ j =>
        rw [ten_succ] at k
        have := ih j (u / 10) ((48 + u % 10) :: L) (by omega) (by omega)
        simp only [List.length_cons] at this
        omega
theorem idx_none : ∀ (L : List Int) (R : List UInt8), dgi L → Lib.indexByte (by8 L ++ R) 46 = if Lib.indexByte R 46 = -1 then -1 else Lib.indexByte R 46 + L.length := by
  intro L R
  induction L with
  | nil => intro _; show Lib.indexByte R 46 = if Lib.indexByte R 46 = -1 then -1 else Lib.indexByte R 46 + 0; split <;> omega
  | cons x L ih =>
    intro h
    have hx := h x (by simp)
    have i := ih (fun y hy => h y (by simp [hy]))
    show Lib.indexByte (UInt8.ofNat x.toNat :: (by8 L ++ R)) 46 = _
    rw [idx_cons, if_neg (fun e => by have := u8n (x := x) (by omega) (by omega); rw [e] at this; have e2 : ((46 : UInt8).toNat : Int) = 46 := rfl; omega), i]
    have ge := Lib.indexByte_ge R 46
    simp only [List.length_cons]
    by_cases z : Lib.indexByte R 46 = -1
    · rw [if_pos z, if_pos z, if_pos rfl]
    · rw [if_neg z, if_neg z, if_neg (by omega)]; omega

/-- the trimmed rest: noughts behind it make it the rest again -/
theorem trim_back : ∀ (n : Nat) (x y : ByteArray), x.size = n → n ≤ 100 → Ev (fun k => strings_trimRightByte.l0 k x 48) y → ∃ j : Nat, x.data.toList = y.data.toList ++ List.replicate j 48 := by
  intro n
  induction n with
  | zero =>
    intro x y hx hn t
    have := E.uniq t (E.succ (E.neg (by omega) (Ev.now x)))
    exact ⟨0, by rw [this]; simp⟩
  | succ n ih =>
    intro x y hx hn t
    have w : wrap64 ((x.size : Int) - 1) = n := by rw [E.w64 (by omega) (by omega)]; omega
    by_cases c : bt x n = 48
    · have sz' : (x.extract 0 n).size = n := by rw [ByteArray.size_extract]; omega
      obtain ⟨y', y1, _⟩ := trim_l n (x.extract 0 n) sz' (by omega)
      have t2 : Ev (fun k => strings_trimRightByte.l0 k x 48) y' := by
        refine E.succ (E.pos (by omega) ?_)
        rw [w]
        refine E.pos (by omega) (E.pos (by omega) (E.pos c (E.pos (by omega) ?_)))
        rw [show ((n : Int)).toNat = n by omega]
        exact y1
      have e := E.uniq t t2
      subst e
      obtain ⟨j, hj⟩ := ih (x.extract 0 n) y sz' (by omega) y1
      refine ⟨j + 1, ?_⟩
      have hi : n < x.size := by omega
      have e1 : x.data.toList = (x.extract 0 n).data.toList ++ x.data.toList.drop n := by
        rw [ByteArray.data_extract, Array.toList_extract]
        simp
      have e2 : x.data.toList.drop n = [48] := by
        rw [X.drop_get x n hi, List.drop_eq_nil_of_le (by rw [sz]; omega), (u8_eq (n := 48) (by omega)).1 ((bt_get hi).symm.trans c)]
        rfl
      rw [e1, e2, hj, List.append_assoc, List.replicate_succ']
    · have t2 : Ev (fun k => strings_trimRightByte.l0 k x 48) x := by
        refine E.succ (E.pos (by omega) ?_)
        rw [w]
        exact E.pos (by omega) (E.pos (by omega) (E.neg c (Ev.now _)))
      have e := E.uniq t t2
      exact ⟨0, by rw [e]; simp⟩
theorem val_rep : ∀ (j : Nat) (n : Int), val (List.replicate j 48) n = n * 10 ^ j := by
  intro j
  induction j with
  | zero => intro n; simp [val]
  | succ j ih =>
    intro n
    rw [List.replicate_succ]
    show val (List.replicate j 48) (10 * n + (((48 : UInt8).toNat : Int) - 48)) = _
    rw [ih, show ((48 : UInt8).toNat : Int) = 48 from rfl, show 10 * n + (48 - 48) = n * 10 by omega, Int.mul_assoc, ← Int.pow_succ']

theorem ext_drop (s : ByteArray) (a : Nat) : (s.extract a s.size).data.toList = s.data.toList.drop a := by
  rw [ByteArray.data_extract, Array.toList_extract]
  have : (s.data.toList.drop a).length ≤ s.size - a := by rw [List.length_drop, sz]; omega
  rw [show (List.extract s.data.toList a s.size) = (s.data.toList.drop a).take (s.size - a) from rfl, List.take_of_length_le this]
theorem ext_take (s : ByteArray) (b : Nat) : (s.extract 0 b).data.toList = s.data.toList.take b := by
  rw [ByteArray.data_extract, Array.toList_extract]
  rw [show (List.extract s.data.toList 0 b) = (s.data.toList.drop 0).take (b - 0) from rfl, List.drop_zero, Nat.sub_zero]
theorem head_bt {s : ByteArray} {c : UInt8} {l : List UInt8} (h : s.data.toList = c :: l) : 0 < s.size ∧ bt s 0 = (c.toNat : Int) := by
  have h0 : 0 < s.size := by rw [← sz, h]; simp
  have e := X.drop_get s 0 h0
  rw [List.drop_zero, h] at e
  have e1 := (List.cons.inj e).1
  refine ⟨h0, ?_⟩
  rw [e1]
  exact bt_get (i := 0) h0
theorem body_yes {s : ByteArray} {l : List UInt8} (h : s.data.toList = 45 :: l) : ng s = true ∧ (body s).data.toList = l := by
  obtain ⟨h0, hb⟩ := head_bt h
  have n : ng s = true := decide_eq_true ⟨h0, by rw [hb]; rfl⟩
  refine ⟨n, ?_⟩
  unfold body
  rw [if_pos n, ext_drop, h]
  rfl
theorem body_no {s : ByteArray} {c : UInt8} {l : List UInt8} (h : s.data.toList = c :: l) (hc : (c.toNat : Int) ≠ 45) : ng s = false ∧ body s = s := by
  obtain ⟨h0, hb⟩ := head_bt h
  have n : ng s = false := decide_eq_false (fun z => hc (hb.symm.trans z.2))
  refine ⟨n, ?_⟩
  unfold body
  rw [if_neg (by rw [n]; simp)]

/-- the number of a text of digits, a point and digits -/
theorem prs_of {s : ByteArray} {neg : Bool} {D : List Int} {T : List UInt8} {u r : Int} (hn : ng s = neg) (hb : (body s).data.toList = by8 D ++ (if T = [] then [] else 46 :: T)) (dD : dgi D) (l1 : 1 ≤ D.length) (l2 : D.length ≤ 12) (vD : val (by8 D) 0 = u)
    (dT : dgs T = true) (lT : T.length ≤ 4) (vT : val T 0 * 10 ^ (4 - T.length) = r) : prs s = sg neg (u * 10000 + r) := by
  have lD : (by8 D).length = D.length := by simp [by8]
  have hm : mid (body s) = if T = [] then -1 else (D.length : Int) := by
    unfold mid
    rw [hb, idx_none D _ dD]
    by_cases z : T = []
    · rw [if_pos z, if_pos z, if_pos (show Lib.indexByte [] 46 = -1 from rfl)]
    · rw [if_neg z, if_neg z, show Lib.indexByte (46 :: T) 46 = 0 by rw [idx_cons, if_pos rfl], if_neg (by omega)]; omega
  unfold prs
  rw [hn, hm]
  generalize body s = B at *
  by_cases z : T = []
  · subst z
    rw [if_pos rfl] at hb ⊢
    rw [List.append_nil] at hb
    rw [if_neg (by omega)]
    have sB : B.size = D.length := by rw [← sz, hb, lD]
    unfold fin
    rw [if_pos ⟨by unfold okd; rw [hb, by_dgs D dD, sB, decide_eq_true (show (1 : Int) ≤ D.length by omega), decide_eq_true (show (D.length : Int) ≤ 12 by omega)]; rfl, fun h => by cases h⟩, hb, vD]
    congr 1
    rw [← vT]
    rfl
  · rw [if_neg z] at hb ⊢
    rw [if_pos (by omega), show ((D.length : Nat) : Int).toNat = D.length by omega, show ((D.length : Int) + 1).toNat = D.length + 1 by omega]
    have eW : (B.extract 0 D.length).data.toList = by8 D := by rw [ext_take, hb, ← lD, List.take_left]
    have eR : (B.extract (D.length + 1) B.size).data.toList = T := by
      rw [ext_drop, hb, ← lD, ← List.drop_drop, List.drop_left]
      rfl
    have sW : (B.extract 0 D.length).size = D.length := by rw [← sz, eW, lD]
    have sR : (B.extract (D.length + 1) B.size).size = T.length := by rw [← sz, eR]
    have tl : 1 ≤ T.length := by cases T with | nil => exact absurd rfl z | cons _ _ => simp
    unfold fin
    rw [if_pos ⟨by unfold okd; rw [eW, by_dgs D dD, sW, decide_eq_true (show (1 : Int) ≤ D.length by omega), decide_eq_true (show (D.length : Int) ≤ 12 by omega)]; rfl, fun _ => by unfold okd; rw [eR, dT, sR, decide_eq_true (show (1 : Int) ≤ T.length by omega), decide_eq_true (show (T.length : Int) ≤ 4 by omega)]; rfl⟩, eW, eR, sR, vD, vT]

theorem back {n : Int} {s x y : ByteArray} (g : good n) (hx : x = strOfNums [48 + ab n % 10000 / 1000, 48 + ab n % 10000 / 100 % 10, 48 + ab n % 10000 / 10 % 10, 48 + ab n % 10000 % 10]) (ty : Ev (fun k => strings_trimRightByte.l0 k x 48) y)
    (hs : s = dot (strOfNums ((if n < 0 then [45] else []) ++ dig 15 (ab n / 10000) [])) y) : prs s = (n, true) := by
  have ba := ab_bd g
  have p8 : (10 : Int) ^ (7 + 1) = 100000000 := by decide
  have p16 : (10 : Int) ^ (15 + 1) = 10000000000000000 := by decide
  have dx : dgi [48 + ab n % 10000 / 1000, 48 + ab n % 10000 / 100 % 10, 48 + ab n % 10000 / 10 % 10, 48 + ab n % 10000 % 10] := fun z hz => by
    simp only [List.mem_cons, List.mem_nil_iff, or_false] at hz
    rcases hz with e | e | e | e <;> omega
  have lx : x.data.toList = by8 [48 + ab n % 10000 / 1000, 48 + ab n % 10000 / 100 % 10, 48 + ab n % 10000 / 10 % 10, 48 + ab n % 10000 % 10] := by rw [hx]; rfl
  have vx : val x.data.toList 0 = ab n % 10000 := by
    rw [lx]
    show val [] (10 * (10 * (10 * (10 * 0 + (((UInt8.ofNat (48 + ab n % 10000 / 1000).toNat).toNat : Int) - 48)) + (((UInt8.ofNat (48 + ab n % 10000 / 100 % 10).toNat).toNat : Int) - 48)) + (((UInt8.ofNat (48 + ab n % 10000 / 10 % 10).toNat).toNat : Int) - 48)) + (((UInt8.ofNat (48 + ab n % 10000 % 10).toNat).toNat : Int) - 48)) = _
    rw [u8n (by omega) (by omega), u8n (by omega) (by omega), u8n (by omega) (by omega), u8n (by omega) (by omega)]
    show 10 * (10 * (10 * (10 * 0 + _) + _) + _) + _ = _
    omega
  obtain ⟨j, hj⟩ := trim_back 4 x y (by rw [hx, son_size]; rfl) (by omega) ty
  have len : y.data.toList.length + j = 4 := by
    have := congrArg List.length hj
    rw [lx] at this
    simp [by8] at this
    simp
    omega
  have dy : dgs y.data.toList = true := by
    have := by_dgs _ dx
    rw [← lx, hj, dgs_append] at this
    cases h : dgs y.data.toList with
    | true => rfl
    | false => rw [h] at this; cases this
  have vy : val y.data.toList 0 * 10 ^ (4 - y.data.toList.length) = ab n % 10000 := by
    rw [← vx, hj, val_append, val_rep, show 4 - y.data.toList.length = j by omega]
  have dD := dig_dgi 15 (ab n / 10000) [] (by omega) (fun z hz => by cases hz)
  have lD := dig_len 15 (ab n / 10000) []
  have lD2 := dig_len2 15 7 (ab n / 10000) [] (by omega) (by rw [p8]; omega)
  have vD : val (by8 (dig 15 (ab n / 10000) [])) 0 = ab n / 10000 := dig_val 15 (ab n / 10000) [] (by omega) (by rw [p16]; omega)
  simp only [List.length_nil] at lD lD2
  have ls : s.data.toList = by8 (if n < 0 then [45] else []) ++ (by8 (dig 15 (ab n / 10000) []) ++ (if y.data.toList = [] then [] else 46 :: y.data.toList)) := by
    have b8 : by8 ((if n < 0 then [45] else []) ++ dig 15 (ab n / 10000) []) = by8 (if n < 0 then [45] else []) ++ by8 (dig 15 (ab n / 10000) []) := by simp [by8]
    rw [hs]
    unfold dot
    by_cases z : y.data.toList = []
    · have : y.size = 0 := by rw [← sz, z]; rfl
      rw [if_pos this, if_pos z, son_bytes, b8, List.append_nil]
    · have : ¬ y.size = 0 := fun e => z (List.length_eq_zero_iff.1 (by rw [sz]; exact e))
      rw [if_neg this, if_neg z, ByteArray.data_append, Array.toList_append, son_bytes, b8, ByteArray.data_append, Array.toList_append, List.append_assoc]
      rfl
  have e : prs s = sg (decide (n < 0)) (ab n / 10000 * 10000 + ab n % 10000) := by
    by_cases z : n < 0
    · rw [if_pos z] at ls
      obtain ⟨h1, h2⟩ := body_yes (s := s) ls
      rw [decide_eq_true z]
      exact prs_of h1 h2 dD (by omega) (by omega) vD dy (by omega) vy
    · rw [if_neg z] at ls
      have ls2 : s.data.toList = by8 (dig 15 (ab n / 10000) []) ++ (if y.data.toList = [] then [] else 46 :: y.data.toList) := ls
      rw [decide_eq_false z]
      cases hD : dig 15 (ab n / 10000) [] with
      | nil => rw [hD] at lD; simp at lD
      | cons d D =>
        have hd := dD d (by rw [hD]; simp)
        obtain ⟨h1, h2⟩ := body_no (s := s) (c := UInt8.ofNat d.toNat) (by rw [ls2, hD]; rfl) (by rw [u8n (by omega) (by omega)]; omega)
        exact prs_of h1 (by rw [h2]; exact ls2) dD (by omega) (by omega) vD dy (by omega) vy
  rw [e, show ab n / 10000 * 10000 + ab n % 10000 = ab n by omega]
  have gn := g
  unfold good at gn
  unfold sg
  by_cases z : n < 0
  · have : ab n = -n := if_pos z
    rw [decide_eq_true z, if_pos rfl, this, show - -n = n by omega, out_yes' g]
  · have : ab n = n := if_neg z
    rw [decide_eq_false z, this, show (if false = true then -n else n) = n from rfl, out_yes' g]

end Go.Proofs.YtcbknemdidehlaaGreatDoor.Pure

/- What values are turned into, in the program and in the document's answer. -/
namespace Go.Proofs.YtcbknemdidehlaaGreatDoor.Vl
open Go.RowKit Go.Proofs.YtcbknemdidehlaaGreatDoor.P Go.Proofs.YtcbknemdidehlaaGreatDoor.Nm Go.Proofs.YtcbknemdidehlaaGreatDoorW.PrintWords Go.Proofs.YtcbknemdidehlaaGreatDoorW.PrintLast
set_option linter.unusedVariables false
set_option linter.unusedSimpArgs false

/-! ### numbers as texts -/
noncomputable def prt (n : Int) : ByteArray := if h : -9223372036854775808 ≤ n ∧ n ≤ 9223372036854775807 then Classical.choose (Print_is n h.1 h.2) else (⟨#[]⟩ : ByteArray)
theorem Prt_is {n : Int} (h : -9223372036854775808 ≤ n) (k : n ≤ 9223372036854775807) : Ev (fun j => num_Print.f j n) (prt n) ∧ Ev (fun j => octavoref05_Print.f j n) (prt n) ∧ (good n → prs (prt n) = (n, true)) := by
  have e : prt n = Classical.choose (Print_is n h k) := dif_pos ⟨h, k⟩
  obtain ⟨a, b, y, ⟨x, hx, ty⟩, hp⟩ := Classical.choose_spec (Print_is n h k)
  rw [← e] at a b hp
  exact ⟨a, b, fun g => Pure.back g hx ty hp⟩

theorem prt_sz {n : Int} (h : -9223372036854775808 ≤ n) (k : n ≤ 9223372036854775807) : (prt n).size ≤ 30 := by
  have e : prt n = Classical.choose (Print_is n h k) := dif_pos ⟨h, k⟩
  obtain ⟨a, b, y, ⟨x, hx, ty⟩, hp⟩ := Classical.choose_spec (Print_is n h k)
  rw [← e] at hp
  have p16 : (10 : Int) ^ (15 + 1) = 10000000000000000 := by decide
  obtain ⟨y', t1, t2, _⟩ := trim_l 4 x (by rw [hx, son_size]; rfl) (by omega)
  have ey := E.uniq ty t1
  subst ey
  have d := dig_len 15 (ab n / 10000) []
  have l1 : (if n < 0 then ([45] : List Int) else []).length ≤ 1 := by split <;> simp
  have l2 : (strOfNums ((if n < 0 then [45] else []) ++ dig 15 (ab n / 10000) [])).size ≤ 17 := by
    rw [son_size, List.length_append]
    simp only [List.length_nil] at d
    omega
  have l3 : x.size = 4 := by rw [hx, son_size]; rfl
  rw [hp]
  unfold dot
  split
  · omega
  · rw [ByteArray.size_append, ByteArray.size_append]
    have : (⟨#[46]⟩ : ByteArray).size = 1 := rfl
    omega

/-! ### texts as values -/
/-- the text in capital letters -/
def up (s : ByteArray) : ByteArray := X.mapS X.gUpper s
def lo (s : ByteArray) : ByteArray := X.mapS X.gLower s
theorem Upper_is {s : ByteArray} (h : s.size ≤ 140737488351232) : value_Upper.f s = some (up s) := if_pos (by omega)
theorem Lower_is {s : ByteArray} (h : s.size ≤ 140737488351232) : value_Lower.f s = some (lo s) := if_pos (by omega)
/-- does a text begin with an apostrophe -/
def q (s : ByteArray) : Bool := decide (0 < s.size ∧ bt s 0 = 39)
theorem ite_same {c : Prop} [Decidable c] {α : Type} {g f : Nat → Option α} {x y : α} (h : c → Ev g x) (k : ¬ c → Ev f y) : Ev (fun n => if c then g n else f n) (if c then x else y) :=
  E.ite (fun hc => by rw [if_pos hc]; exact h hc) (fun hc => by rw [if_neg hc]; exact k hc)
noncomputable def txt (a b : Int) (s : ByteArray) : ByteArray :=
  if a = 1 then prt b else if a = 2 then s else if a = 3 then (if b = 0 then (⟨#[70, 65, 76, 83, 69]⟩ : ByteArray) else (⟨#[84, 82, 85, 69]⟩ : ByteArray)) else if a = 4 then (if 1 ≤ b then (if b ≤ 8 then rdOf ByteArray.empty X.errL b else (⟨#[]⟩ : ByteArray)) else (⟨#[]⟩ : ByteArray)) else (⟨#[]⟩ : ByteArray)
noncomputable def ttxt (a b : Int) (s : ByteArray) : ByteArray × Int := if a = 4 then ((⟨#[]⟩ : ByteArray), b) else (txt a b s, 0)
/-- is it a value -/
def gdv (a b : Int) (s : ByteArray) : Prop :=
  (a = 0 ∧ b = 0 ∧ s.size = 0) ∨ (a = 1 ∧ good b ∧ s.size = 0) ∨ (a = 2 ∧ b = 0 ∧ s.size ≤ 255) ∨ (a = 3 ∧ (b = 0 ∨ b = 1) ∧ s.size = 0) ∨ (a = 4 ∧ 1 ≤ b ∧ b ≤ 8 ∧ s.size = 0)
instance (a b : Int) (s : ByteArray) : Decidable (gdv a b s) := by unfold gdv good; infer_instance
end Go.Proofs.YtcbknemdidehlaaGreatDoor.Vl

/- Which of two values is greater, in the program and in the document's answer: an order. -/
namespace Go.Proofs.YtcbknemdidehlaaGreatDoor.Vl
open Go.RowKit Go.Proofs.YtcbknemdidehlaaGreatDoor.P Go.Proofs.YtcbknemdidehlaaGreatDoor.Nm Go.Proofs.YtcbknemdidehlaaGreatDoorW.PrintWords Go.Proofs.YtcbknemdidehlaaGreatDoorW.PrintLast
set_option linter.unusedVariables false
set_option linter.unusedSimpArgs false

theorem e0 : (⟨#[]⟩ : ByteArray).size ≤ 140737488351232 := by decide
/-- which of two places is greater -/
def cp (x y : Int × Int × ByteArray) : Int :=
  if x.1 = y.1 then (if x.2.1 = y.2.1 then (if x.2.2.toList = y.2.2.toList then 0 else if Op.bytesLess x.2.2.toList y.2.2.toList = true then -1 else 1) else if x.2.1 < y.2.1 then -1 else 1) else if x.1 < y.1 then -1 else 1
end Go.Proofs.YtcbknemdidehlaaGreatDoor.Vl

/- The characters of a text, in the program and in the document's answer. -/
namespace Go.Proofs.YtcbknemdidehlaaGreatDoor.Vl
open Go.RowKit Go.Proofs.YtcbknemdidehlaaGreatDoor.P Go.Proofs.YtcbknemdidehlaaGreatDoor.Nm Go.Proofs.YtcbknemdidehlaaGreatDoorW.PrintWords Go.Proofs.YtcbknemdidehlaaGreatDoorW.PrintLast
set_option linter.unusedVariables false
set_option linter.unusedSimpArgs false

theorem bt_get! (s : ByteArray) (i : Nat) : bt s (i : Int) = ((s.get! i).toNat : Int) := by
  unfold bt
  simp only [Int.toNat_natCast]
  by_cases h : i < s.size
  · rw [dif_pos h, X.get_ s i h]
  · rw [dif_neg h]
    have : s.get! i = 0 := by
      show s.data[i]! = 0
      rw [getElem!_neg _ _ (by simpa using h)]
      rfl
    rw [this]
    rfl
/-- how many bytes the first character has, by its bytes -/
def wd (n b0 b1 b2 b3 : Int) : Int :=
  if b0 < 128 then 1
  else if 194 ≤ b0 ∧ b0 ≤ 223 then (if n < 2 ∨ b1 < 128 ∨ b1 > 191 then 1 else 2)
  else if 224 ≤ b0 ∧ b0 ≤ 239 then (if n < 3 ∨ b1 < (if b0 = 224 then 160 else 128) ∨ b1 > (if b0 = 237 then 159 else 191) ∨ b2 < 128 ∨ b2 > 191 then 1 else 3)
  else if 240 ≤ b0 ∧ b0 ≤ 244 then (if n < 4 ∨ b1 < (if b0 = 240 then 144 else 128) ∨ b1 > (if b0 = 244 then 143 else 191) ∨ b2 < 128 ∨ b2 > 191 ∨ b3 < 128 ∨ b3 > 191 then 1 else 4)
  else 1
set_option maxHeartbeats 4000000 in
theorem wd_is (n b0 b1 b2 b3 : Nat) (h0 : b0 < 256) (h1 : b1 < 256) (h2 : b2 < 256) (h3 : b3 < 256) : ((Lib.decodeN n b0 b1 b2 b3).2 : Int) = wd n b0 b1 b2 b3 := by
  unfold wd
  rcases Lib.decodeN_shape n b0 b1 b2 b3 with ⟨c, e⟩ | ⟨c1, c2, c3, cv, e⟩ | ⟨c1, c2, c3, c4, cv, cs, e⟩ | ⟨c1, c2, c3, c4, c5, cv, cw, e⟩ | e
  · rw [e, if_pos (by omega)]; rfl
  · rw [e, if_neg (by omega), if_pos (by omega), if_neg (by omega)]; rfl
  · rw [e, if_neg (by omega), if_neg (by omega), if_pos (by omega)]
    rw [if_neg (by split <;> split <;> omega)]; rfl
  · rw [e, if_neg (by omega), if_neg (by omega), if_neg (by omega), if_pos (by omega)]
    rw [if_neg (by split <;> split <;> omega)]; rfl
  · rw [e]
    have e2 := e
    unfold Lib.decodeN at e2
    by_cases a : b0 < 128
    · rw [if_pos a] at e2
      injection e2 with e2 _
      omega
    rw [if_neg a] at e2
    rw [if_neg (by omega)]
    by_cases b : b0 / 32 = 6 ∧ (1 < n ∧ b1 / 64 = 2)
    · rw [if_pos b] at e2
      by_cases c : b0 % 32 * 64 + b1 % 64 ≥ 128
      · rw [if_pos c] at e2; injection e2 with _ e2; omega
      · rw [if_neg (by omega), if_neg (by omega), if_neg (by omega)]; rfl
    rw [if_neg b] at e2
    by_cases p2 : (194 : Int) ≤ b0 ∧ (b0 : Int) ≤ 223
    · rw [if_pos p2, if_pos (by omega)]; rfl
    rw [if_neg p2]
    by_cases p3 : (224 : Int) ≤ b0 ∧ (b0 : Int) ≤ 239
    · rw [if_pos p3]
      by_cases d : b0 / 16 = 14 ∧ (1 < n ∧ b1 / 64 = 2) ∧ (2 < n ∧ b2 / 64 = 2)
      · rw [if_pos d] at e2
        split at e2
        · injection e2 with _ e2; omega
        · rw [if_pos (by split <;> split <;> omega)]; rfl
      · rw [if_pos (by split <;> split <;> omega)]; rfl
    rw [if_neg p3]
    by_cases p4 : (240 : Int) ≤ b0 ∧ (b0 : Int) ≤ 244
    · rw [if_pos p4]
      rw [if_neg (by omega)] at e2
      by_cases d : b0 / 8 = 30 ∧ (1 < n ∧ b1 / 64 = 2) ∧ (2 < n ∧ b2 / 64 = 2) ∧ (3 < n ∧ b3 / 64 = 2)
      · rw [if_pos d] at e2
        split at e2
        · injection e2 with _ e2; omega
        · rw [if_pos (by split <;> split <;> omega)]; rfl
      · rw [if_pos (by split <;> split <;> omega)]; rfl
    rw [if_neg p4]; rfl
theorem width_l (s : ByteArray) (n : Int) (hn : n = 2 ∨ n = 3 ∨ n = 4) (hs : n ≤ s.size) : Ev (fun k => octavoref06_width.l0 k s n 2) (if n = 2 then 2 else if bt s 2 < 128 ∨ bt s 2 > 191 then 1 else if n = 3 then 3 else if bt s 3 < 128 ∨ bt s 3 > 191 then 1 else 4) := by
  have fin : Ev (fun k => octavoref06_width.l0 k s n n) n := E.succ (E.neg (by omega) (Ev.now _))
  have st : ∀ (i : Int) (r : Int), i < n → 0 ≤ i → Ev (fun k => octavoref06_width.l0 k s n (i + 1)) r → Ev (fun k => octavoref06_width.l0 k s n i) (if bt s i < 128 ∨ bt s i > 191 then 1 else r) := by
    intro i r h1 h0 hr
    refine E.succ (E.pos h1 (E.pos h0 (E.pos (by omega) (E.ite (fun c => ?_) (fun c => E.ite (fun d => ?_) (fun d => ?_))))))
    · rw [if_pos (.inl c)]; exact Ev.now _
    · rw [if_pos (.inr d)]; exact Ev.now _
    · rw [if_neg (by omega), E.w64 (by omega) (by omega)]; exact hr
  rcases hn with rfl | rfl | rfl
  · rw [if_pos rfl]; exact fin
  · exact E.is (st 2 3 (by omega) (by omega) fin) (by simp)
  · exact E.is (st 2 _ (by omega) (by omega) (st 3 4 (by omega) (by omega) fin)) (by simp)
theorem width_is {s : ByteArray} (h : 0 < s.size) : Ev (fun k => octavoref06_width.f k s) ((Utf8.decode s 0).2 : Int) := by
  have k0 := (s.get! 0).toNat_lt
  have k1 := (s.get! 1).toNat_lt
  have k2 := (s.get! 2).toNat_lt
  have k3 := (s.get! 3).toNat_lt
  have g0 := bt_get! s 0
  have g1 := bt_get! s 1
  have g2 := bt_get! s 2
  have g3 := bt_get! s 3
  rw [Lib.decode_at, Nat.sub_zero, Nat.zero_add, Nat.zero_add, Nat.zero_add, wd_is _ _ _ _ _ k0 k1 k2 k3, ← g0, ← g1, ← g2, ← g3]
  have e0 : ((0 : Nat) : Int) = 0 := rfl
  have e1 : ((1 : Nat) : Int) = 1 := rfl
  have e2 : ((2 : Nat) : Int) = 2 := rfl
  have e3 : ((3 : Nat) : Int) = 3 := rfl
  rw [e0, e1, e2, e3]
  have b0 : 0 ≤ bt s 0 ∧ bt s 0 ≤ 255 := bt_range s 0
  have j4 : ∀ (n : Int) (x : Bool), Ev (fun k => octavoref06_width.j4 k s n true) 1 := fun n x => by
    refine E.succ ?_
    simp only [octavoref06_width.j4]
    exact E.pos trivial (Ev.now _)
  have j3 : ∀ (n lo hi : Int), (n = 2 ∨ n = 3 ∨ n = 4) → Ev (fun k => octavoref06_width.j3 k s n lo hi) (if (s.size : Int) < n ∨ bt s 1 < lo ∨ bt s 1 > hi then 1 else if n = 2 then 2 else if bt s 2 < 128 ∨ bt s 2 > 191 then 1 else if n = 3 then 3 else if bt s 3 < 128 ∨ bt s 3 > 191 then 1 else 4) := by
    intro n lo hi hn
    refine E.succ ?_
    simp only [octavoref06_width.j3]
    refine E.ite (fun c => ?_) (fun c => E.pos (by omega) (E.ite (fun d => ?_) (fun d => ?_)))
    · rw [if_pos (.inl c)]; exact j4 n true
    · rw [if_pos (.inr (.inl d))]; exact j4 n true
    · by_cases f : bt s 1 > hi
      · rw [if_pos (.inr (.inr f)), show decide (bt s 1 > hi) = true from decide_eq_true f]; exact j4 n true
      · rw [if_neg (by omega), show decide (bt s 1 > hi) = false from decide_eq_false f]
        refine E.succ ?_
        simp only [octavoref06_width.j4]
        exact E.neg (by decide) (width_l s n hn (by omega))
  have j2 : ∀ x : Bool, x = decide (240 ≤ bt s 0 ∧ bt s 0 ≤ 244) → ¬ bt s 0 < 240 ∨ x = false → Ev (fun k => octavoref06_width.j2 k s (bt s 0) 128 191 x) (if x = true then (if (s.size : Int) < 4 ∨ bt s 1 < (if bt s 0 = 240 then 144 else 128) ∨ bt s 1 > (if bt s 0 = 244 then 143 else 191) then 1 else if bt s 2 < 128 ∨ bt s 2 > 191 then 1 else if bt s 3 < 128 ∨ bt s 3 > 191 then 1 else 4) else 1) := by
    intro x hx _
    refine E.succ ?_
    simp only [octavoref06_width.j2]
    refine ite_same (fun _ => ?_) (fun _ => Ev.now _)
    have J := fun lo hi => j3 4 lo hi (.inr (.inr rfl))
    simp only [show ((4 : Int) = 2) = False by simp, show ((4 : Int) = 3) = False by simp, if_false] at J
    refine E.ite (fun c => E.ite (fun d => ?_) (fun d => ?_)) (fun c => E.ite (fun d => ?_) (fun d => ?_))
    · omega
    · rw [if_pos c, if_neg (c := bt s 0 = 244) d]; exact J 144 191
    · rw [if_neg (c := bt s 0 = 240) c, if_pos d]; exact J 128 143
    · rw [if_neg (c := bt s 0 = 240) c, if_neg (c := bt s 0 = 244) d]; exact J 128 191
  have j1 : ∀ x : Bool, x = decide (224 ≤ bt s 0 ∧ bt s 0 ≤ 239) → Ev (fun k => octavoref06_width.j1 k s (bt s 0) 128 191 x) (if x = true then (if (s.size : Int) < 3 ∨ bt s 1 < (if bt s 0 = 224 then 160 else 128) ∨ bt s 1 > (if bt s 0 = 237 then 159 else 191) then 1 else if bt s 2 < 128 ∨ bt s 2 > 191 then 1 else 3) else if 240 ≤ bt s 0 ∧ bt s 0 ≤ 244 then (if (s.size : Int) < 4 ∨ bt s 1 < (if bt s 0 = 240 then 144 else 128) ∨ bt s 1 > (if bt s 0 = 244 then 143 else 191) then 1 else if bt s 2 < 128 ∨ bt s 2 > 191 then 1 else if bt s 3 < 128 ∨ bt s 3 > 191 then 1 else 4) else 1) := by
    intro x hx
    refine E.succ ?_
    simp only [octavoref06_width.j1]
    refine ite_same (fun _ => ?_) (fun _ => ?_)
    · have J := fun lo hi => j3 3 lo hi (.inr (.inl rfl))
      simp only [show ((3 : Int) = 2) = False by simp, show ((3 : Int) = 3) = True by simp, if_false, if_true] at J
      refine E.ite (fun c => E.ite (fun d => ?_) (fun d => ?_)) (fun c => E.ite (fun d => ?_) (fun d => ?_))
      · omega
      · rw [if_pos c, if_neg (c := bt s 0 = 237) d]; exact J 160 191
      · rw [if_neg (c := bt s 0 = 224) c, if_pos d]; exact J 128 159
      · rw [if_neg (c := bt s 0 = 224) c, if_neg (c := bt s 0 = 237) d]; exact J 128 191
    · have J := j2 (decide (240 ≤ bt s 0 ∧ bt s 0 ≤ 244)) rfl
      simp only [decide_eq_true_eq, decide_eq_false_iff_not] at J
      refine E.ite (fun c => ?_) (fun c => ?_)
      · rw [show decide (bt s 0 ≤ 244) = decide (240 ≤ bt s 0 ∧ bt s 0 ≤ 244) by simp; omega]
        exact J (.inl (by omega))
      · rw [show (false : Bool) = decide (240 ≤ bt s 0 ∧ bt s 0 ≤ 244) by simp; omega]
        exact J (.inr (by omega))
  refine E.pos (by omega) ?_
  unfold wd
  refine E.ite (fun c => ?_) (fun c => ?_)
  · rw [if_pos c]; exact Ev.now _
  rw [if_neg c]
  have j0 : ∀ x : Bool, x = decide (194 ≤ bt s 0 ∧ bt s 0 ≤ 223) → Ev (fun k => octavoref06_width.j0 k s (bt s 0) 128 191 x) (if 194 ≤ bt s 0 ∧ bt s 0 ≤ 223 then (if (s.size : Int) < 2 ∨ bt s 1 < 128 ∨ bt s 1 > 191 then 1 else 2)
      else if 224 ≤ bt s 0 ∧ bt s 0 ≤ 239 then (if (s.size : Int) < 3 ∨ bt s 1 < (if bt s 0 = 224 then 160 else 128) ∨ bt s 1 > (if bt s 0 = 237 then 159 else 191) ∨ bt s 2 < 128 ∨ bt s 2 > 191 then 1 else 3)
      else if 240 ≤ bt s 0 ∧ bt s 0 ≤ 244 then (if (s.size : Int) < 4 ∨ bt s 1 < (if bt s 0 = 240 then 144 else 128) ∨ bt s 1 > (if bt s 0 = 244 then 143 else 191) ∨ bt s 2 < 128 ∨ bt s 2 > 191 ∨ bt s 3 < 128 ∨ bt s 3 > 191 then 1 else 4) else 1) := by
    intro x hx
    refine E.succ ?_
    simp only [octavoref06_width.j0]
    by_cases a : 194 ≤ bt s 0 ∧ bt s 0 ≤ 223
    · rw [if_pos a]
      refine E.pos (by rw [hx]; exact decide_eq_true a) ?_
      have J := j3 2 128 191 (.inl rfl)
      simp only [if_true] at J
      exact J
    rw [if_neg a]
    refine E.neg (by rw [hx]; simpa using a) ?_
    have J := j1 (decide (224 ≤ bt s 0 ∧ bt s 0 ≤ 239)) rfl
    simp only [decide_eq_true_eq] at J
    have J2 : Ev (fun k => octavoref06_width.j1 k s (bt s 0) 128 191 (decide (224 ≤ bt s 0 ∧ bt s 0 ≤ 239))) (if 224 ≤ bt s 0 ∧ bt s 0 ≤ 239 then (if (s.size : Int) < 3 ∨ bt s 1 < (if bt s 0 = 224 then 160 else 128) ∨ bt s 1 > (if bt s 0 = 237 then 159 else 191) ∨ bt s 2 < 128 ∨ bt s 2 > 191 then 1 else 3)
      else if 240 ≤ bt s 0 ∧ bt s 0 ≤ 244 then (if (s.size : Int) < 4 ∨ bt s 1 < (if bt s 0 = 240 then 144 else 128) ∨ bt s 1 > (if bt s 0 = 244 then 143 else 191) ∨ bt s 2 < 128 ∨ bt s 2 > 191 ∨ bt s 3 < 128 ∨ bt s 3 > 191 then 1 else 4) else 1) := by
      refine E.is J ?_
      generalize (if bt s 0 = 224 then (160 : Int) else 128) = l1
      generalize (if bt s 0 = 237 then (159 : Int) else 191) = l2
      generalize (if bt s 0 = 240 then (144 : Int) else 128) = l3
      generalize (if bt s 0 = 244 then (143 : Int) else 191) = l4
      repeat' split
      all_goals first | rfl | (exfalso; omega)
    refine E.ite (fun d => ?_) (fun d => ?_)
    · rw [show decide (bt s 0 ≤ 239) = decide (224 ≤ bt s 0 ∧ bt s 0 ≤ 239) by simp; omega]
      exact J2
    · rw [show (false : Bool) = decide (224 ≤ bt s 0 ∧ bt s 0 ≤ 239) by simp; omega]
      exact J2
  refine E.ite (fun d => ?_) (fun d => ?_)
  · rw [show decide (bt s 0 ≤ 223) = decide (194 ≤ bt s 0 ∧ bt s 0 ≤ 223) by simp; omega]
    exact j0 _ rfl
  · rw [show (false : Bool) = decide (194 ≤ bt s 0 ∧ bt s 0 ≤ 223) by simp; omega]
    exact j0 _ rfl

/-! ### the characters -/
/-- the characters from a place on (at most m of them) -/
def chs (s : ByteArray) : Nat → Nat → List ByteArray
  | 0, _ => []
  | m + 1, pos => if pos < s.size then s.extract pos (pos + (Utf8.decode s pos).2) :: chs s m (pos + (Utf8.decode s pos).2) else []
theorem tail_dec (s : ByteArray) (n pos : Nat) : Utf8.decode (s.extract n s.size) pos = Utf8.decode s (n + pos) := by
  have gt : ∀ i, (s.extract n s.size).get! i = s.get! (n + i) := by
    intro i
    by_cases h : n + i < s.size
    · rw [X.get_ _ i (by rw [ByteArray.size_extract]; omega), X.get_ s (n + i) h]
      exact ByteArray.getElem_extract ..
    · have z : ∀ (t : ByteArray) (j : Nat), ¬ j < t.size → t.get! j = 0 := by
        intro t j h
        show t.data[j]! = 0
        rw [getElem!_neg _ _ (by simpa using h)]
        rfl
      rw [z _ i (by rw [ByteArray.size_extract]; omega), z s (n + i) h]
  rw [Lib.decode_at, Lib.decode_at, gt, gt, gt, gt, ByteArray.size_extract]
  rw [show min s.size s.size - n - pos = s.size - (n + pos) by omega]
  simp only [Nat.add_assoc]
theorem Chars_l {s : ByteArray} (hs : s.size ≤ 8796093022207) : ∀ (m pos : Nat) (l : List ByteArray), s.size ≤ pos + m → l.length ≤ pos → Ev (fun k => value_Chars.l0 k s pos l) (l ++ chs s m pos) := by
  intro m
  induction m with
  | zero =>
    intro pos l h1 h2
    refine E.succ (E.neg (by omega) ?_)
    simp only [chs, List.append_nil]
    exact Ev.now _
  | succ m ih =>
    intro pos l h1 h2
    unfold chs
    by_cases c : pos < s.size
    · rw [if_pos c]
      obtain ⟨d1, d2, _⟩ := X.dec_facts s pos c
      refine E.succ (E.pos c (E.pos (by omega) ?_))
      have := ih (pos + (Utf8.decode s pos).2) (l ++ [s.extract pos (pos + (Utf8.decode s pos).2)]) (by omega) (by simp; omega)
      rw [List.append_assoc] at this
      exact this
    · rw [if_neg c, List.append_nil]
      exact E.succ (E.neg c (Ev.now _))
theorem rChars_l {s : ByteArray} (hs : s.size ≤ 8796093022207) : ∀ (m pos : Nat) (l : List ByteArray), s.size ≤ pos + m → pos ≤ s.size → l.length ≤ pos → Ev (fun k => octavoref06_Chars.l0 k (s.extract pos s.size) l) (l ++ chs s m pos) := by
  have base : ∀ (pos : Nat) (l : List ByteArray), ¬ pos < s.size → Ev (fun k => octavoref06_Chars.l0 k (s.extract pos s.size) l) l := fun pos l h => by
    refine E.succ (E.pos ((nil_iff _).2 ?_) (Ev.now _))
    rw [ByteArray.size_extract]; omega
  intro m
  induction m with
  | zero =>
    intro pos l h1 h0 h2
    simp only [chs, List.append_nil]
    exact base pos l (by omega)
  | succ m ih =>
    intro pos l h1 h0 h2
    unfold chs
    by_cases c : pos < s.size
    · rw [if_pos c]
      obtain ⟨d1, d2, _⟩ := X.dec_facts s pos c
      have sz' : (s.extract pos s.size).size = s.size - pos := by rw [ByteArray.size_extract]; omega
      have w := width_is (s := s.extract pos s.size) (by omega)
      rw [tail_dec, Nat.add_zero] at w
      refine E.succ (E.neg (fun h => by have := (nil_iff _).1 h; omega) (Ev.bind w (E.pos (by omega) (E.pos (by omega) (E.pos (by omega) ?_)))))
      have e1 : (s.extract pos s.size).extract 0 (((Utf8.decode s pos).2 : Int)).toNat = s.extract pos (pos + (Utf8.decode s pos).2) := by
        rw [Int.toNat_natCast, ByteArray.extract_extract, Nat.add_zero, Nat.min_eq_left (by omega)]
      have e2 : (s.extract pos s.size).extract (((Utf8.decode s pos).2 : Int)).toNat (s.extract pos s.size).size = s.extract (pos + (Utf8.decode s pos).2) s.size := by
        rw [Int.toNat_natCast, ByteArray.extract_extract, sz', show min (pos + (s.size - pos)) s.size = s.size by omega]
      rw [e1, e2]
      have := ih (pos + (Utf8.decode s pos).2) (l ++ [s.extract pos (pos + (Utf8.decode s pos).2)]) (by omega) (by omega) (by simp; omega)
      rw [List.append_assoc] at this
      exact this
    · rw [if_neg c, List.append_nil]
      exact base pos l c
/-- all characters of a text -/
def chars (s : ByteArray) : List ByteArray := chs s s.size 0
theorem Chars_is {s : ByteArray} (hs : s.size ≤ 8796093022207) : Ev (fun k => value_Chars.f k s) (chars s) :=
  E.pos (by omega) (Chars_l hs s.size 0 [] (by omega) (by simp))
theorem rChars_is {s : ByteArray} (hs : s.size ≤ 8796093022207) : Ev (fun k => octavoref06_Chars.f k s) (chars s) := by
  have := rChars_l hs s.size 0 [] (by omega) (by omega) (by simp)
  rw [show s.extract 0 s.size = s from ByteArray.extract_zero_size] at this
  exact this
theorem chs_len (s : ByteArray) : ∀ (m pos : Nat), (chs s m pos).length ≤ m := by
  intro m
  induction m with
  | zero => intro pos; simp [chs]
  | succ m ih =>
    intro pos
    unfold chs
    split
    · simp; exact ih _
    · simp
end Go.Proofs.YtcbknemdidehlaaGreatDoor.Vl

/- The characters of texts put together. -/
set_option linter.unusedVariables false
namespace Go.Proofs.YtcbknemdidehlaaGreatDoor.Vl
open Go.RowKit
theorem decN_loc {n n' b0 b1 b2 b3 c1 c2 c3 : Nat} (h1 : 1 < (Lib.decodeN n b0 b1 b2 b3).2 → c1 = b1 ∧ 1 < n') (h2 : 2 < (Lib.decodeN n b0 b1 b2 b3).2 → c2 = b2 ∧ 2 < n') (h3 : 3 < (Lib.decodeN n b0 b1 b2 b3).2 → c3 = b3 ∧ 3 < n')
    (hw : (Lib.decodeN n b0 b1 b2 b3).2 ≠ 1 ∨ b0 < 128) : Lib.decodeN n' b0 c1 c2 c3 = Lib.decodeN n b0 b1 b2 b3 := by
  by_cases c0 : b0 < 128
  · unfold Lib.decodeN
    rw [if_pos c0, if_pos c0]
  rcases Lib.decodeN_shape n b0 b1 b2 b3 with ⟨c, e⟩ | ⟨k1, k2, k3, kv, e⟩ | ⟨k1, k2, k3, k4, kv, ks, e⟩ | ⟨k1, k2, k3, k4, k5, kv, kw, e⟩ | e
  · exact absurd c c0
  · rw [e] at h1 ⊢
    obtain ⟨rfl, q1⟩ := h1 (by dsimp only; omega)
    unfold Lib.decodeN
    rw [if_neg c0, if_pos ⟨k1, q1, k3⟩, if_pos kv]
  · rw [e] at h1 h2 ⊢
    obtain ⟨rfl, q1⟩ := h1 (by dsimp only; omega)
    obtain ⟨rfl, q2⟩ := h2 (by dsimp only; omega)
    unfold Lib.decodeN
    rw [if_neg c0, if_neg (by omega), if_pos ⟨k1, ⟨q1, k3⟩, q2, k4⟩, if_pos ⟨kv, by omega⟩]
  · rw [e] at h1 h2 h3 ⊢
    obtain ⟨rfl, q1⟩ := h1 (by dsimp only; omega)
    obtain ⟨rfl, q2⟩ := h2 (by dsimp only; omega)
    obtain ⟨rfl, q3⟩ := h3 (by dsimp only; omega)
    unfold Lib.decodeN
    rw [if_neg c0, if_neg (by omega), if_neg (by omega), if_pos ⟨k1, ⟨q1, k3⟩, ⟨q2, k4⟩, q3, k5⟩, if_pos ⟨kv, by omega⟩]
  · rw [e] at hw
    rcases hw with q | q
    · exact absurd rfl q
    · exact absurd q c0
/-- A whole character stands anywhere for itself. -/
theorem dec_eq (s t : ByteArray) (p q : Nat) (hp : p < s.size) (hw : (Utf8.decode s p).2 ≠ 1 ∨ (s.get! p).toNat < 128) (hq : q + (Utf8.decode s p).2 ≤ t.size)
    (he : ∀ j, j < (Utf8.decode s p).2 → t.get! (q + j) = s.get! (p + j)) : Utf8.decode t q = Utf8.decode s p := by
  obtain ⟨d1, d2, _⟩ := X.dec_facts s p hp
  have e0 : t.get! q = s.get! p := he 0 (by omega)
  rw [Lib.decode_at] at hw hq he d1 ⊢
  rw [Lib.decode_at, e0]
  refine decN_loc (fun h => ⟨?_, by omega⟩) (fun h => ⟨?_, by omega⟩) (fun h => ⟨?_, by omega⟩) hw
  · rw [he 1 h]
  · rw [he 2 h]
  · rw [he 3 h]
/-- Is a character no stray byte? -/
def wch (c : ByteArray) : Bool := !(decide ((c.size : Int) = 1) && (match c[0]? with | some b => decide ((b.toNat : Int) ≥ 128) | none => false))
theorem get_app_l {a b : ByteArray} {i : Nat} (h : i < a.size) : (a ++ b).get! i = a.get! i := by
  rw [X.get_ _ i (by rw [ByteArray.size_append]; omega), X.get_ a i h]
  exact ByteArray.getElem_append_left h
theorem get_ext {s : ByteArray} {p e i : Nat} (h : p + i < e) (he : e ≤ s.size) : (s.extract p e).get! i = s.get! (p + i) := by
  rw [X.get_ _ i (by rw [ByteArray.size_extract]; omega), X.get_ s (p + i) (by omega)]
  exact ByteArray.getElem_extract ..
theorem wch_ext {s : ByteArray} {p : Nat} (hp : p < s.size) (h : wch (s.extract p (p + (Utf8.decode s p).2)) = true) : (Utf8.decode s p).2 ≠ 1 ∨ (s.get! p).toNat < 128 := by
  obtain ⟨d1, d2, _⟩ := X.dec_facts s p hp
  by_cases c : (Utf8.decode s p).2 = 1
  · right
    rw [c] at h
    have z : (s.extract p (p + 1)).size = 1 := by rw [ByteArray.size_extract]; omega
    have g : (s.extract p (p + 1))[0]? = some (s.get! p) := by
      rw [getElem?_pos (s.extract p (p + 1)) 0 (by omega), ← X.get_ _ 0 (by omega), get_ext (by omega) (by omega)]
      rfl
    unfold wch at h
    rw [z, g] at h
    simp at h
    omega
  · exact .inl c
theorem chs_all {s : ByteArray} {m pos : Nat} (h : (chs s (m + 1) pos).all wch = true) (hp : pos < s.size) : ((Utf8.decode s pos).2 ≠ 1 ∨ (s.get! pos).toNat < 128) ∧ (chs s m (pos + (Utf8.decode s pos).2)).all wch = true := by
  unfold chs at h
  rw [if_pos hp, List.all_cons, Bool.and_eq_true] at h
  exact ⟨wch_ext hp h.1, h.2⟩
theorem dec_tail (a b : ByteArray) (i : Nat) : Utf8.decode (a ++ b) (a.size + i) = Utf8.decode b i := by
  rw [← tail_dec, ByteArray.extract_append_eq_right (by rfl) (by rw [ByteArray.size_append])]
theorem chs_tail (a b : ByteArray) : ∀ (m M i : Nat), b.size ≤ i + m → b.size ≤ i + M → chs (a ++ b) M (a.size + i) = chs b m i := by
  intro m
  induction m with
  | zero =>
    intro M i h1 h2
    cases M with
    | zero => rfl
    | succ M =>
      unfold chs
      rw [if_neg (by rw [ByteArray.size_append]; omega)]
  | succ m ih =>
    intro M i h1 h2
    by_cases c : i < b.size
    · cases M with
      | zero => omega
      | succ M =>
        obtain ⟨d1, d2, _⟩ := X.dec_facts b i c
        unfold chs
        rw [if_pos (by rw [ByteArray.size_append]; omega), if_pos c, dec_tail]
        congr 1
        · rw [Nat.add_assoc, ByteArray.extract_append]
          rw [ByteArray.extract_eq_empty_iff.2 (by omega)]
          simp only [Nat.add_sub_cancel_left]
          exact ByteArray.empty_append
        · rw [Nat.add_assoc]
          exact ih M _ (by omega) (by omega)
    · cases M with
      | zero => unfold chs; rw [if_neg c]
      | succ M =>
        unfold chs
        rw [if_neg (by rw [ByteArray.size_append]; omega), if_neg c]
theorem chs_app (a b : ByteArray) : ∀ (m M pos : Nat), a.size ≤ pos + m → pos ≤ a.size → a.size + b.size ≤ pos + M → (chs a m pos).all wch = true → chs (a ++ b) M pos = chs a m pos ++ chs b b.size 0 := by
  intro m
  induction m with
  | zero =>
    intro M pos h1 h2 h3 hw
    have : pos = a.size := by omega
    subst this
    exact chs_tail a b b.size M 0 (by omega) (by omega)
  | succ m ih =>
    intro M pos h1 h2 h3 hw
    by_cases c : pos < a.size
    · obtain ⟨w1, w2⟩ := chs_all hw c
      obtain ⟨d1, d2, _⟩ := X.dec_facts a pos c
      have e : Utf8.decode (a ++ b) pos = Utf8.decode a pos := dec_eq a (a ++ b) pos pos c w1 (by rw [ByteArray.size_append]; omega) (fun j hj => get_app_l (by omega))
      cases M with
      | zero => omega
      | succ M =>
        have i1 := ih M (pos + (Utf8.decode a pos).2) (by omega) (by omega) (by omega) w2
        have u1 : chs (a ++ b) (M + 1) pos = (a ++ b).extract pos (pos + (Utf8.decode a pos).2) :: chs (a ++ b) M (pos + (Utf8.decode a pos).2) := by
          show (if pos < (a ++ b).size then _ else _) = _
          rw [if_pos (by rw [ByteArray.size_append]; omega), e]
        have u2 : chs a (m + 1) pos = a.extract pos (pos + (Utf8.decode a pos).2) :: chs a m (pos + (Utf8.decode a pos).2) := by
          show (if pos < a.size then _ else _) = _
          rw [if_pos c]
        rw [u1, u2, i1, List.cons_append]
        congr 1
        rw [ByteArray.extract_append, Nat.sub_eq_zero_of_le d2]
        have : b.extract (pos - a.size) 0 = ByteArray.empty := ByteArray.extract_eq_empty_iff.2 (by omega)
        rw [this]
        exact ByteArray.append_empty
    · have : pos = a.size := by omega
      subst this
      have u2 : chs a (m + 1) a.size = [] := by
        show (if a.size < a.size then _ else _) = _
        rw [if_neg (by omega)]
      rw [u2]
      exact chs_tail a b b.size M 0 (by omega) (by omega)
theorem chars_app {a : ByteArray} (b : ByteArray) (h : (chars a).all wch = true) : chars (a ++ b) = chars a ++ chars b :=
  chs_app a b a.size (a ++ b).size 0 (by omega) (by omega) (by rw [ByteArray.size_append]; omega) h
/-- A whole character's characters. -/
theorem chars_one (s : ByteArray) : ∀ (m pos : Nat) (c : ByteArray), c ∈ chs s m pos → wch c = true → chars c = [c] := by
  intro m
  induction m with
  | zero => intro pos c h; cases h
  | succ m ih =>
    intro pos c h hw
    unfold chs at h
    by_cases q : pos < s.size
    · rw [if_pos q] at h
      rcases List.mem_cons.1 h with rfl | h
      · obtain ⟨d1, d2, _⟩ := X.dec_facts s pos q
        have w1 := wch_ext q hw
        have z : (s.extract pos (pos + (Utf8.decode s pos).2)).size = (Utf8.decode s pos).2 := by rw [ByteArray.size_extract]; omega
        have e : Utf8.decode (s.extract pos (pos + (Utf8.decode s pos).2)) 0 = Utf8.decode s pos := dec_eq s _ pos 0 q w1 (by omega) (fun j hj => by rw [Nat.zero_add]; exact get_ext (by omega) (by omega))
        obtain ⟨k, hk⟩ : ∃ k, (Utf8.decode s pos).2 = k + 1 := ⟨(Utf8.decode s pos).2 - 1, by omega⟩
        generalize hc : s.extract pos (pos + (Utf8.decode s pos).2) = c at *
        have hz : c.size = k + 1 := by omega
        show chs c c.size 0 = [c]
        rw [hz]
        show (if 0 < c.size then _ else _) = _
        rw [if_pos (by omega), e, hk, Nat.zero_add, ← hz, ByteArray.extract_zero_size]
        congr 1
        cases k with
        | zero => rfl
        | succ k =>
          show (if c.size < c.size then _ else _) = _
          rw [if_neg (by omega)]
      · exact ih _ c h hw
    · rw [if_neg q] at h
      cases h
end Go.Proofs.YtcbknemdidehlaaGreatDoor.Vl
