/- What the text of a number comes to, in the program and in the document's answer. -/
import Derived.Test.YtdbahgjfbleocaaDoorNumE
import Derived.Laws.Strings
import Derived.Test.YtdbahgjfbleocaaDoorPx0
import Derived.Test.YtdbahgjfbleocaaDoorPx3
import Derived.Test.YtdbahgjfbleocaaDoorPx4
import Derived.Test.YtdbahgjfbleocaaDoorPx8
namespace Go.Proofs.YtdbahgjfbleocaaDoor.Nm
open Go.RowKit Go.Proofs.YtdbahgjfbleocaaDoor.P Go.Proofs.YtdbahgjfbleocaaDoorW.PrintWords Go.Proofs.YtdbahgjfbleocaaDoorW.PrintLast
set_option linter.unusedVariables false
set_option linter.unusedSimpArgs false

theorem son_append (x y : List Int) : strOfNums x ++ strOfNums y = strOfNums (x ++ y) := by
  apply ByteArray.ext
  simp [strOfNums, ByteArray.data_append]
theorem son_size (x : List Int) : (strOfNums x).size = x.length := by simp [strOfNums, ByteArray.size]

/-- the digits of a number below 10 ^ (m + 1), ahead of others -/
def dig : Nat → Int → List Int → List Int
  | 0, u, L => (48 + u % 10) :: L
  | m + 1, u, L => if u / 10 = 0 then (48 + u % 10) :: L else dig m (u / 10) ((48 + u % 10) :: L)
theorem ten_succ (m : Nat) : (10 : Int) ^ (m + 1) = 10 * 10 ^ m := by rw [Int.pow_succ, Int.mul_comm]
theorem dig_len : ∀ (m : Nat) (u : Int) (L : List Int), L.length + 1 ≤ (dig m u L).length ∧ (dig m u L).length ≤ L.length + m + 1 := by
  intro m
  induction m with
  | zero => intro u L; simp [dig]
  | succ m ih =>
    intro u L
    unfold dig
    split
    · simp
    · have := ih (u / 10) ((48 + u % 10) :: L)
      simp only [List.length_cons] at this
      omega
theorem dec_l : ∀ (m : Nat) (u : Int) (L : List Int), 0 ≤ u → u < 10 ^ (m + 1) → L.length + m < 20 → Ev (fun k => num_decimal.l0 k L u) (strOfNums (dig m u L)) := by
  intro m
  induction m with
  | zero =>
    intro u L h k hl
    exact E.succ (E.pos (by omega) (E.pos (by omega) (Ev.now _)))
  | succ m ih =>
    intro u L h k hl
    rw [ten_succ] at k
    refine E.succ (E.pos (by omega) ?_)
    unfold dig
    refine E.ite (fun c => by rw [if_pos c]; exact Ev.now _) (fun c => ?_)
    rw [if_neg c]
    exact ih (u / 10) _ (by omega) (by omega) (by simp only [List.length_cons]; omega)
theorem dec_is {m : Nat} {u : Int} (h : 0 ≤ u) (k : u < 10 ^ (m + 1)) (hm : m < 20) (b : u ≤ 18446744073709551615) : Ev (fun k => num_decimal.f k u) (strOfNums (dig m u [])) :=
  E.pos h (E.pos b (dec_l m u [] h k (by simpa using hm)))
theorem rdig_l : ∀ (m : Nat) (u : Int) (L : List Int), 0 ≤ u → u < 10 ^ (m + 1) → u ≤ 18446744073709551615 → L.length + m < 100 → Ev (fun k => octavoref05_Digits.l0 k u (strOfNums L)) (strOfNums (dig m u L)) := by
  have one : ∀ (u : Int) (L : List Int) (r : ByteArray), 0 ≤ u → u ≤ 18446744073709551615 → L.length < 100 → (if u / 10 = 0 then r = strOfNums ((48 + u % 10) :: L) else Ev (fun k => octavoref05_Digits.l0 k (u / 10) (strOfNums ((48 + u % 10) :: L))) r) → Ev (fun k => octavoref05_Digits.l0 k u (strOfNums L)) r := by
    intro u L r h b hl g
    refine E.succ ?_
    simp only [octavoref05_Digits.l0, Option.bind_some]
    rw [show Int.tmod u 10 = u % 10 from Int.tmod_eq_emod_of_nonneg h, show Int.tdiv u 10 = u / 10 from Int.tdiv_eq_ediv_of_nonneg h, wu (x := 48 + u % 10) (by omega) (by omega), wu (x := u / 10) (by omega) (by omega), son_append, show (48 + u % 10) % 256 = 48 + u % 10 by omega]
    refine E.pos (by rw [son_size, son_size]; simp; omega) ?_
    by_cases c : u / 10 = 0
    · rw [if_pos c] at g; exact E.pos c (E.now g.symm)
    · rw [if_neg c] at g; exact E.neg c g
  intro m
  induction m with
  | zero =>
    intro u L h k b hl
    exact one u L _ h b (by omega) (by rw [if_pos (by omega)]; rfl)
  | succ m ih =>
    intro u L h k b hl
    rw [ten_succ] at k
    refine one u L _ h b (by omega) ?_
    unfold dig
    by_cases c : u / 10 = 0
    · rw [if_pos c, if_pos c]
    · rw [if_neg c, if_neg c]
      exact ih (u / 10) _ (by omega) (by omega) (by omega) (by simp only [List.length_cons]; omega)
theorem rdig_is {m : Nat} {u : Int} (h : 0 ≤ u) (k : u < 10 ^ (m + 1)) (hm : m < 100) (b : u ≤ 18446744073709551615) : Ev (fun k => octavoref05_Digits.f k u) (strOfNums (dig m u [])) :=
  rdig_l m u [] h k b (by simpa using hm)

/-! ### noughts at the end -/
theorem nil_iff (x : ByteArray) : x.toList = ([] : List UInt8) ↔ x.size = 0 := by
  rw [ByteArray.toList_eq, ← List.length_eq_zero_iff, Array.length_toList]
  rfl
theorem bt_extract (s : ByteArray) (a b : Nat) (i : Int) (h : b ≤ s.size) (h0 : 0 ≤ i) (hi : a + i < b) : bt (s.extract a b) i = bt s (a + i) := by
  have h1 : i.toNat < (s.extract a b).size := by rw [ByteArray.size_extract]; omega
  have h2 : ((a : Int) + i).toNat < s.size := by omega
  unfold bt
  rw [dif_pos h1, dif_pos h2]
  congr 2
  rw [ByteArray.getElem_extract]
  congr 1
  omega

/-- what the document's answer makes of the trimmed rest -/
def dot (x y : ByteArray) : ByteArray := if y.size = 0 then x else x ++ ((⟨#[46]⟩ : ByteArray) ++ y)
theorem trim_l : ∀ (n : Nat) (x : ByteArray), x.size = n → n ≤ 100 → ∃ y : ByteArray, Ev (fun k => strings_trimRightByte.l0 k x 48) y ∧ y.size ≤ x.size ∧
    (∀ z : ByteArray, z.size ≤ 100 → Ev (fun k => octavoref05_Print.l0 k z x) (dot z y)) ∧ (y.size = 0 ↔ ∀ i : Int, 0 ≤ i → i < n → bt x i = 48) := by
  intro n
  induction n with
  | zero =>
    intro x hx hn
    refine ⟨x, E.succ (E.neg (by omega) (Ev.now _)), Nat.le_refl _, fun z hz => ?_, by simp [hx]; intro i a b; omega⟩
    unfold dot
    rw [if_pos hx]
    exact E.succ (E.neg (by omega) (E.pos ((nil_iff x).2 hx) (Ev.now _)))
  | succ n ih =>
    intro x hx hn
    have w : wrap64 ((x.size : Int) - 1) = n := by rw [E.w64 (by omega) (by omega)]; omega
    by_cases c : bt x n = 48
    · have sz : (x.extract 0 n).size = n := by rw [ByteArray.size_extract]; omega
      obtain ⟨y, y1, y2, y3, y4⟩ := ih (x.extract 0 n) sz (by omega)
      refine ⟨y, ?_, by omega, fun z hz => ?_, ?_⟩
      · refine E.succ (E.pos (by omega) ?_)
        rw [w]
        refine E.pos (by omega) (E.pos (by omega) (E.pos c (E.pos (by omega) ?_)))
        rw [show ((n : Int)).toNat = n by omega]
        exact y1
      · refine E.succ (E.pos (by omega) ?_)
        rw [w]
        refine E.pos (by omega) (E.pos (by omega) (E.pos c (E.pos (by omega) ?_)))
        rw [show ((n : Int)).toNat = n by omega]
        exact y3 z hz
      · rw [y4]
        refine ⟨fun h i a b => ?_, fun h i a b => ?_⟩
        · by_cases e : i = n
          · rw [e]; exact c
          · have := h i a (by omega)
            rw [bt_extract x 0 n i (by omega) a (by omega), show ((0 : Nat) : Int) + i = i by omega] at this
            exact this
        · rw [bt_extract x 0 n i (by omega) a (by omega), show ((0 : Nat) : Int) + i = i by omega]
          exact h i a (by omega)
    · refine ⟨x, ?_, Nat.le_refl _, fun z hz => ?_, ⟨fun h => by omega, fun h => absurd (h n (by omega) (by omega)) c⟩⟩
      · refine E.succ (E.pos (by omega) ?_)
        rw [w]
        exact E.pos (by omega) (E.pos (by omega) (E.neg c (Ev.now _)))
      · unfold dot
        rw [if_neg (by omega)]
        refine E.succ (E.pos (by omega) ?_)
        rw [w]
        refine E.pos (by omega) (E.pos (by omega) (E.neg c (E.neg (fun h => by have := (nil_iff x).1 h; omega) ?_)))
        have s1 : ((⟨#[46]⟩ : ByteArray) ++ x).size = 1 + x.size := by rw [ByteArray.size_append]; rfl
        exact E.pos (by omega) (E.pos (by rw [s1]; omega) (Ev.now _))
theorem trim_is {x y : ByteArray} (h : x.size ≠ 0) (t : Ev (fun k => strings_trimRightByte.l0 k x 48) y) : Ev (fun k => strings_TrimRight.f k x (⟨#[48]⟩ : ByteArray)) y := by
  refine E.neg (fun e => h ((nil_iff x).1 e)) ?_
  have e0 : ((⟨#[48]⟩ : ByteArray).toList == ([] : List UInt8)) = false := by decide +kernel
  have e1 : bt (⟨#[48]⟩ : ByteArray) 0 = 48 := by decide +kernel
  rw [e0]
  refine E.succ ?_
  simp only [strings_TrimRight.j0, e1]
  refine E.neg (by simp) (E.pos (by decide) (E.pos (by decide) (E.succ ?_)))
  simp only [strings_TrimRight.j1, e1]
  refine E.pos (by decide) (E.pos (by decide) (Ev.bind (a := y) ?_ (Ev.now _)))
  exact t

/-- the four digits behind the point -/
theorem dig4 {r : Int} (h : 0 ≤ r) (k : r < 10000) : dig 4 (r + 10000) [] = [49, 48 + r / 1000, 48 + r / 100 % 10, 48 + r / 10 % 10, 48 + r % 10] := by
  simp only [dig]
  rw [if_neg (by omega), if_neg (by omega), if_neg (by omega), if_neg (by omega)]
  simp only [List.cons.injEq, and_true]
  omega
theorem rest4 {r : Int} (h : 0 ≤ r) (k : r < 10000) : (strOfNums (dig 4 (r + 10000) [])).extract 1 (strOfNums (dig 4 (r + 10000) [])).size = strOfNums [48 + r / 1000, 48 + r / 100 % 10, 48 + r / 10 % 10, 48 + r % 10] := by
  rw [dig4 h k]
  rw [son_size]
  apply ByteArray.ext
  simp [strOfNums]
theorem bt_son (L : List Int) (i : Nat) (h : i < L.length) (hb : 0 ≤ L[i] ∧ L[i] ≤ 255) : bt (strOfNums L) (i : Int) = L[i] := by
  have h1 : i < (strOfNums L).size := by rw [son_size]; exact h
  have e : (strOfNums L)[i]'h1 = UInt8.ofNat (L[i].toNat) := by
    show (strOfNums L).data[i]'h1 = _
    simp [strOfNums]
  rw [← bt_at (strOfNums L) (i : Int) h1]
  show (((strOfNums L)[i]'h1).toNat : Int) = _
  rw [e, UInt8.toNat_ofNat']
  omega
theorem rest_bt {r : Int} (h : 0 ≤ r) (k : r < 10000) : (∀ i : Int, 0 ≤ i → i < 4 → bt (strOfNums [48 + r / 1000, 48 + r / 100 % 10, 48 + r / 10 % 10, 48 + r % 10]) i = 48) ↔ r = 0 := by
  have b0 : bt (strOfNums [48 + r / 1000, 48 + r / 100 % 10, 48 + r / 10 % 10, 48 + r % 10]) 0 = 48 + r / 1000 := bt_son _ 0 (by simp) (by simp; omega)
  have b1 : bt (strOfNums [48 + r / 1000, 48 + r / 100 % 10, 48 + r / 10 % 10, 48 + r % 10]) 1 = 48 + r / 100 % 10 := bt_son _ 1 (by simp) (by simp; omega)
  have b2 : bt (strOfNums [48 + r / 1000, 48 + r / 100 % 10, 48 + r / 10 % 10, 48 + r % 10]) 2 = 48 + r / 10 % 10 := bt_son _ 2 (by simp) (by simp; omega)
  have b3 : bt (strOfNums [48 + r / 1000, 48 + r / 100 % 10, 48 + r / 10 % 10, 48 + r % 10]) 3 = 48 + r % 10 := bt_son _ 3 (by simp) (by simp; omega)
  constructor
  · intro a
    have c0 := a 0 (by omega) (by omega)
    have c1 := a 1 (by omega) (by omega)
    have c2 := a 2 (by omega) (by omega)
    have c3 := a 3 (by omega) (by omega)
    omega
  · intro e i i0 i4
    rcases (show i = 0 ∨ i = 1 ∨ i = 2 ∨ i = 3 by omega) with rfl | rfl | rfl | rfl <;> omega

theorem Print_is (n : Int) (h : -9223372036854775808 ≤ n) (k : n ≤ 9223372036854775807) : ∃ s : ByteArray, Ev (fun j => num_Print.f j n) s ∧ Ev (fun j => octavoref05_Print.f j n) s ∧
    ∃ y : ByteArray, (∃ x : ByteArray, x = strOfNums [48 + ab n % 10000 / 1000, 48 + ab n % 10000 / 100 % 10, 48 + ab n % 10000 / 10 % 10, 48 + ab n % 10000 % 10] ∧ Ev (fun k => strings_trimRightByte.l0 k x 48) y) ∧ s = dot (strOfNums ((if n < 0 then [45] else []) ++ dig 15 (ab n / 10000) [])) y := by
  have ba : 0 ≤ ab n ∧ ab n ≤ 9223372036854775808 := by unfold ab; split <;> omega
  have p16 : (10 : Int) ^ (15 + 1) = 10000000000000000 := by decide
  have p5 : (10 : Int) ^ (4 + 1) = 100000 := by decide
  have td : Int.tdiv (ab n) 10000 = ab n / 10000 := Int.tdiv_eq_ediv_of_nonneg ba.1
  have tm : Int.tmod (ab n) 10000 = ab n % 10000 := Int.tmod_eq_emod_of_nonneg ba.1
  obtain ⟨y, y1, y2, y3, y4⟩ := trim_l 4 (strOfNums [48 + ab n % 10000 / 1000, 48 + ab n % 10000 / 100 % 10, 48 + ab n % 10000 / 10 % 10, 48 + ab n % 10000 % 10]) (by rw [son_size]; rfl) (by omega)
  have y4 := Iff.trans y4 (rest_bt (r := ab n % 10000) (by omega) (by omega))
  rw [son_size] at y2
  have y2' : y.size ≤ 4 := y2
  have re := rest4 (r := ab n % 10000) (by omega) (by omega)
  have d1 := dec_is (m := 15) (u := ab n / 10000) (by omega) (by rw [p16]; omega) (by omega) (by omega)
  have d2 := dec_is (m := 4) (u := ab n % 10000 + 10000) (by omega) (by rw [p5]; omega) (by omega) (by omega)
  have e1 := rdig_is (m := 15) (u := ab n / 10000) (by omega) (by rw [p16]; omega) (by omega) (by omega)
  have e2 := rdig_is (m := 4) (u := ab n % 10000 + 10000) (by omega) (by rw [p5]; omega) (by omega) (by omega)
  have sl := dig_len 15 (ab n / 10000) []
  simp only [List.length_nil] at sl
  have s5 : (strOfNums (dig 4 (ab n % 10000 + 10000) [])).size = 5 := by rw [dig4 (by omega) (by omega), son_size]; rfl
  refine ⟨_, ?_, ?_, y, ⟨_, rfl, y1⟩, rfl⟩
  · refine E.bindn (size_is h k) ?_
    rw [td, tm, wu (x := ab n / 10000) (by omega) (by omega), wu (x := ab n % 10000 + 10000) (by omega) (by omega)]
    refine Ev.bind d1 (E.ite (fun c => ?_) (fun c => ?_))
    · have ny : ¬ y.size = 0 := fun e => by have := y4.1 e; omega
      refine Ev.bind d2 (E.pos (by omega) ?_)
      rw [re]
      have q1 : ((⟨#[46]⟩ : ByteArray) ++ y).size = 1 + y.size := by rw [ByteArray.size_append]; rfl
      refine Ev.bind (trim_is (by rw [son_size]; simp) y1) (E.pos (by omega) (E.pos (by rw [son_size, q1]; omega) ?_))
      unfold dot
      rw [if_neg ny]
      have q2 : (strOfNums (dig 15 (ab n / 10000) []) ++ ((⟨#[46]⟩ : ByteArray) ++ y)).size = (dig 15 (ab n / 10000) []).length + (1 + y.size) := by rw [ByteArray.size_append, son_size, q1]
      refine E.ite (fun z => E.pos (by rw [q2]; omega) (E.now ?_)) (fun z => E.now ?_)
      · rw [if_pos z, ← son_append, ByteArray.append_assoc]; rfl
      · rw [if_neg z]; rfl
    · have ny : y.size = 0 := y4.2 (by omega)
      unfold dot
      rw [if_pos ny]
      refine E.ite (fun z => E.pos (by rw [son_size]; omega) (E.now ?_)) (fun z => E.now ?_)
      · rw [if_pos z, ← son_append]; rfl
      · rw [if_neg z]; rfl
  · have j0 : ∀ (L : List Int), L.length ≤ 1 → Ev (fun j => octavoref05_Print.j0 j (strOfNums L) (ab n)) (dot (strOfNums (L ++ dig 15 (ab n / 10000) [])) y) := fun L hL => by
      refine E.succ ?_
      simp only [octavoref05_Print.j0]
      rw [td, tm, wu (x := ab n / 10000) (by omega) (by omega), wu (x := ab n % 10000 + 10000) (by omega) (by omega)]
      refine Ev.bind e1 (E.pos (by rw [son_size, son_size]; omega) (Ev.bind e2 (E.pos (by omega) ?_)))
      rw [re, son_append]
      exact y3 _ (by rw [son_size, List.length_append]; omega)
    refine E.ite (fun z => ?_) (fun z => ?_)
    · rw [if_pos z, show IntKind.u64.wrap (IntKind.u64.wrap (wrap64 (-wrap64 (n + 1))) + 1) = ab n by
        rw [E.w64 (x := n + 1) (by omega) (by omega), E.w64 (x := -(n + 1)) (by omega) (by omega), wu (x := -(n + 1)) (by omega) (by omega), wu (by omega) (by omega)]
        unfold ab; rw [if_pos z]; omega]
      exact j0 [45] (by simp)
    · rw [if_neg z, show IntKind.u64.wrap n = ab n by rw [wu (by omega) (by omega)]; unfold ab; rw [if_neg z]]
      exact j0 [] (by simp)
end Go.Proofs.YtdbahgjfbleocaaDoor.Nm
