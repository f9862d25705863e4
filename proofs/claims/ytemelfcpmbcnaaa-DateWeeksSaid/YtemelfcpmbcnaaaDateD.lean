/- Dates by arithmetic: texts; the examples. -/
import Derived.Test.YtemelfcpmbcnaaaDateC
import Derived.Test.YtemelfcpmbcnaaaPx1
import Derived.Test.YtemelfcpmbcnaaaPx2
import Derived.Test.YtemelfcpmbcnaaaPx6
namespace Go.Proofs.Ytemelfcpmbcnaaa.Dt
open Go.RowKit Go.Proofs.Ytemelfcpmbcnaaa.P Go.Proofs.YtemelfcpmbcnaaaW.PrintWords Go.Proofs.YtemelfcpmbcnaaaW.PrintLast
set_option linter.unusedVariables false
set_option linter.unusedSimpArgs false

def fmt (y m d : Int) : List Int := [48 + y / 1000, 48 + y / 100 % 10, 48 + y / 10 % 10, 48 + y % 10, 45, 48 + m / 10, 48 + m % 10, 45, 48 + d / 10, 48 + d % 10]
theorem put_step {L : List Int} {i n : Int} {r : List Int} (hn : 0 < n) (h0 : 0 ≤ i) (h1 : i < 10) (hb : n ≤ 100000) (h : Ev (fun k => date_Print.l1 k (L.set i.toNat (48 + n % 10)) (i - 1) (n / 10)) r) : Ev (fun k => date_Print.l1 k L i n) r := by
  refine E.succ (E.pos hn (E.pos h0 (E.pos h1 ?_)))
  rw [td _ (by omega), E.w64 (by omega) (by omega)]
  exact h
theorem put_done {L : List Int} {i n : Int} (hn : n = 0) : Ev (fun k => date_Print.l1 k L i n) L := E.succ (E.neg (by omega) (Ev.now _))
theorem put4 {y : Int} (h : 1000 ≤ y) (k : y ≤ 9999) : Ev (fun k => date_Print.l1 k ([48, 48, 48, 48, 45, 48, 48, 45, 48, 48] : List Int) 3 y) [48 + y / 1000, 48 + y / 100 % 10, 48 + y / 10 % 10, 48 + y % 10, 45, 48, 48, 45, 48, 48] := by
  refine put_step (by omega) (by omega) (by omega) (by omega) (put_step (by omega) (by omega) (by omega) (by omega) (put_step (by omega) (by omega) (by omega) (by omega) (put_step (by omega) (by omega) (by omega) (by omega) (E.is (put_done (by omega)) ?_))))
  have e1 : y / 10 / 10 = y / 100 := by omega
  have e2 : y / 10 / 10 / 10 % 10 = y / 1000 := by omega
  rw [e2, e1]
  rfl
theorem put2 {i : Int} {n : Int} (L : List Int) (hi : 1 ≤ i) (hi2 : i < 10) (h : 1 ≤ n) (k : n ≤ 99) (h0 : L[(i - 1).toNat]? = some 48) : Ev (fun k => date_Print.l1 k L i n) ((L.set i.toNat (48 + n % 10)).set (i - 1).toNat (48 + n / 10)) := by
  by_cases c : n < 10
  · refine put_step (by omega) (by omega) (by omega) (by omega) (E.is (put_done (by omega)) ?_)
    rw [show n / 10 = 0 from by omega]
    have hl : (i - 1).toNat < L.length := by
      rcases Nat.lt_or_ge (i - 1).toNat L.length with q | q
      · exact q
      · rw [List.getElem?_eq_none q] at h0; cases h0
    apply List.ext_getElem?
    intro j
    by_cases e : j = (i - 1).toNat
    · subst e
      rw [List.getElem?_set_self (by simpa using hl), List.getElem?_set_ne (by omega), h0]
      rfl
    · rw [List.getElem?_set_ne (by omega) (l := L.set _ _)]
  · refine put_step (by omega) (by omega) (by omega) (by omega) (put_step (by omega) (by omega) (by omega) (by omega) (E.is (put_done (by omega)) ?_))
    rw [show n / 10 % 10 = n / 10 from by omega]
theorem Print_is {a y m d : Int} (h : Is a y m d) : Ev (fun k => date_Print.f k a) (strOfNums (fmt y m d)) := by
  have g := h
  obtain ⟨g1, g2, g3, g4, g5, g6, g7⟩ := g
  have l := last_bd y m g3 g4
  unfold date_Print.f
  refine Ev.bind (Parts_is h) (E.pos rfl (Ev.bind (put4 (by omega) g2) (Ev.bind (put2 (i := 6) (n := m) _ (by omega) (by omega) g3 (by omega) rfl) (Ev.bind (put2 (i := 9) (n := d) _ (by omega) (by omega) g5 (by omega) rfl) (E.now ?_)))))
  rfl
theorem Print_no {a : Int} (h : a < 1 ∨ 2958464 < a) : Ev (fun k => date_Print.f k a) (⟨#[]⟩ : ByteArray) := by
  unfold date_Print.f
  exact Ev.bind (Parts_no h) (E.neg (by simp) (Ev.now _))

/-! ### the reference's digits -/
theorem son_append (x y : List Int) : strOfNums x ++ strOfNums y = strOfNums (x ++ y) := by
  apply ByteArray.ext
  simp [strOfNums, ByteArray.data_append]
theorem son_size (x : List Int) : (strOfNums x).size = x.length := by simp [strOfNums, ByteArray.size]
theorem u64 {x : Int} (h : 0 ≤ x) (k : x ≤ 18446744073709551615) : IntKind.u64.wrap x = x := by
  have e : IntKind.u64.bits = 64 := rfl
  have s : IntKind.u64.signed = false := rfl
  simp [IntKind.wrap, e, s]
  omega
theorem dig_last {n : Int} {l : List Int} (h : 0 ≤ n) (k : n < 10) (hl : l.length ≤ 100) : Ev (fun k => octavoref05_Digits.l0 k n (strOfNums l)) (strOfNums ((48 + n) :: l)) := by
  refine E.succ ?_
  simp only [octavoref05_Digits.l0, Option.bind_some]
  rw [(tm n 10 (by omega)).1 h, td _ h, u64 (x := 48 + n % 10) (by omega) (by omega), u64 (x := n / 10) (by omega) (by omega)]
  refine E.pos (by rw [son_size, son_size]; simp; omega) (E.pos (by omega) (E.now ?_))
  rw [son_append, show (48 + n % 10) % 256 = 48 + n from by omega]
  rfl
theorem dig_more {n : Int} {l : List Int} {r : ByteArray} (h : 10 ≤ n) (k : n ≤ 1000000) (hl : l.length ≤ 100) (g : Ev (fun k => octavoref05_Digits.l0 k (n / 10) (strOfNums ((48 + n % 10) :: l))) r) : Ev (fun k => octavoref05_Digits.l0 k n (strOfNums l)) r := by
  refine E.succ ?_
  simp only [octavoref05_Digits.l0, Option.bind_some]
  rw [(tm n 10 (by omega)).1 (by omega), td _ (by omega), u64 (x := 48 + n % 10) (by omega) (by omega), u64 (x := n / 10) (by omega) (by omega)]
  refine E.pos (by rw [son_size, son_size]; simp; omega) (E.neg (by omega) ?_)
  rw [son_append, show (48 + n % 10) % 256 = 48 + n % 10 from by omega]
  exact g
theorem Itoa_is {n : Int} {r : ByteArray} (h : 0 ≤ n) (k : n ≤ 1000000) (g : Ev (fun k => octavoref05_Digits.l0 k n (strOfNums [])) r) : Ev (fun k => octavoref05_Itoa.f k n) r := by
  unfold octavoref05_Itoa.f octavoref05_Digits.f
  refine E.neg (by omega) ?_
  rw [u64 h (by omega)]
  exact Ev.bind g (Ev.now _)
theorem pad_done {w : Int} {s : ByteArray} (h : w ≤ s.size) : Ev (fun k => octavoref07_pad.l0 k w s) s := E.succ (E.neg (by omega) (Ev.now _))
theorem pad4 {y : Int} (h : 1000 ≤ y) (k : y ≤ 9999) : Ev (fun k => octavoref07_pad.f k y 4) (strOfNums [48 + y / 1000, 48 + y / 100 % 10, 48 + y / 10 % 10, 48 + y % 10]) := by
  unfold octavoref07_pad.f
  refine Ev.bind (a := strOfNums [48 + y / 1000, 48 + y / 100 % 10, 48 + y / 10 % 10, 48 + y % 10]) (Itoa_is (by omega) (by omega) ?_) (pad_done (by rw [son_size]; simp))
  refine dig_more (by omega) (by omega) (by simp) (dig_more (by omega) (by omega) (by simp) (dig_more (by omega) (by omega) (by simp) (E.is (dig_last (by omega) (by omega) (by simp)) ?_)))
  rw [show y / 10 / 10 % 10 = y / 100 % 10 from by omega, show y / 10 / 10 / 10 = y / 1000 from by omega]
theorem pad2 {n : Int} (h : 1 ≤ n) (k : n ≤ 99) : Ev (fun k => octavoref07_pad.f k n 2) (strOfNums [48 + n / 10, 48 + n % 10]) := by
  unfold octavoref07_pad.f
  by_cases c : n < 10
  · refine Ev.bind (Itoa_is (by omega) (by omega) (dig_last (by omega) c (by simp))) (E.succ (E.pos (by rw [son_size]; simp) (E.pos (by rw [son_size]; simp) (E.is (pad_done (by rw [ByteArray.size_append, son_size]; simp [ByteArray.size])) ?_))))
    rw [show n / 10 = 0 from by omega, show n % 10 = n from by omega]
    exact son_append [48] [48 + n]
  · refine Ev.bind (Itoa_is (by omega) (by omega) (dig_more (by omega) (by omega) (by simp) (dig_last (by omega) (by omega) (by simp)))) (pad_done (by rw [son_size]; simp))
theorem rPrint_is {a y m d : Int} (h : Is a y m d) : Ev (fun k => octavoref07_Print.f k a) (strOfNums (fmt y m d)) := by
  have g := h
  obtain ⟨g1, g2, g3, g4, g5, g6, g7⟩ := g
  have l := last_bd y m g3 g4
  have s1 : (⟨#[45]⟩ : ByteArray) = strOfNums [45] := rfl
  unfold octavoref07_Print.f
  refine Ev.bind (rParts_is h) (E.pos rfl (Ev.bind (pad4 (by omega) g2) (E.pos (by rw [son_size]; simp) (Ev.bind (pad2 (n := m) g3 (by omega)) ?_))))
  simp only [s1, son_append, son_size]
  refine E.pos (by simp) (E.pos (by simp) (Ev.bind (pad2 (n := d) g5 (by omega)) ?_))
  simp only [son_append, son_size]
  exact E.pos (by simp) (E.now rfl)
theorem rPrint_no {a : Int} (h : a < 1 ∨ 2958464 < a) : Ev (fun k => octavoref07_Print.f k a) (⟨#[]⟩ : ByteArray) := by
  unfold octavoref07_Print.f
  exact Ev.bind (rParts_no h) (E.neg (by simp) (Ev.now _))

/-! ### a date out of a text -/
def dg (s : ByteArray) (i : Int) : Bool := decide (48 ≤ bt s i ∧ bt s i ≤ 57)
def shape (s : ByteArray) : Bool := decide ((s.size : Int) = 10) && (decide (bt s 4 = 45) && (decide (bt s 7 = 45) && (dg s 0 && (dg s 1 && (dg s 2 && (dg s 3 && (dg s 5 && (dg s 6 && (dg s 8 && dg s 9)))))))))
def num (s : ByteArray) (i : Int) : Int := bt s i - 48
def parse (s : ByteArray) : Int × Bool := if shape s then day (1000 * num s 0 + 100 * num s 1 + 10 * num s 2 + num s 3) (10 * num s 5 + num s 6) (10 * num s 8 + num s 9) else (0, false)
theorem p_dash {s : ByteArray} (hs : (s.size : Int) = 10) {i : Int} {j a b c : Int} {r : Int × Bool} (hi : i = 4 ∨ i = 7) (hj : 0 ≤ j) (hj2 : j ≤ 5) (no : bt s i ≠ 45 → (0, false) = r) (yes : bt s i = 45 → Ev (fun k => date_Parse.l0 k s (j + 1) (i + 1) a b c) r) : Ev (fun k => date_Parse.l0 k s j i a b c) r := by
  refine E.succ (E.pos (by omega) (E.pos (by omega) (E.pos hi (E.ite (fun c => ?_) (fun c => E.now (no c))))))
  simp (disch := omega) only [E.w64]
  exact yes c
theorem p_dig {s : ByteArray} (hs : (s.size : Int) = 10) {i : Int} {j a b c a' b' c' : Int} {r : Int × Bool} (hi0 : 0 ≤ i) (hi : i < 10) (hi4 : i ≠ 4) (hi7 : i ≠ 7) (no : dg s i = false → (0, false) = r)
    (hh : (j = 0 ∧ 0 ≤ a ∧ a ≤ 100000 ∧ a' = 10 * a + num s i ∧ b' = b ∧ c' = c) ∨ (j = 1 ∧ 0 ≤ b ∧ b ≤ 100000 ∧ a' = a ∧ b' = 10 * b + num s i ∧ c' = c) ∨ (j = 2 ∧ 0 ≤ c ∧ c ≤ 100000 ∧ a' = a ∧ b' = b ∧ c' = 10 * c + num s i))
    (yes : dg s i = true → Ev (fun k => date_Parse.l0 k s j (i + 1) a' b' c') r) : Ev (fun k => date_Parse.l0 k s j i a b c) r := by
  refine E.succ (E.pos (by omega) (E.pos (by omega) (E.neg (by omega) (E.ite (fun c => E.now (no (decide_eq_false (by omega)))) (fun c1 => E.ite (fun c => E.now (no (decide_eq_false (by omega)))) (fun c2 => ?_))))))
  have y := yes (decide_eq_true (by omega))
  have e : (bt s i - 48) % 256 = bt s i - 48 := by omega
  unfold num at hh
  rw [E.w64 (x := i + 1) (by omega) (by omega), e]
  rcases hh with ⟨rfl, _, _, rfl, rfl, rfl⟩ | ⟨rfl, _, _, rfl, rfl, rfl⟩ | ⟨rfl, _, _, rfl, rfl, rfl⟩
  · simp (disch := omega) only [E.w64]
    exact E.pos (by simp) y
  · simp (disch := omega) only [E.w64]
    exact E.neg (by simp) (E.pos (by simp) y)
  · simp (disch := omega) only [E.w64]
    exact E.neg (by simp) (E.neg (by simp) (E.pos (by simp) y))
theorem p_end {s : ByteArray} (hs : (s.size : Int) = 10) {j a b c : Int} : Ev (fun k => date_Parse.l0 k s j 10 a b c) (day a b c) := E.succ (E.neg (by omega) (Day_is a b c))
theorem dg_bd {s : ByteArray} {i : Int} (h : dg s i = true) : 0 ≤ num s i ∧ num s i ≤ 9 := by
  have := of_decide_eq_true h
  unfold num
  omega
theorem Parse_is (s : ByteArray) : Ev (fun k => date_Parse.f k s) (parse s) := by
  unfold date_Parse.f
  by_cases hs : (s.size : Int) = 10
  · refine E.pos hs ?_
    refine p_dig hs (i := 0) (by omega) (by omega) (by omega) (by omega) (fun h => by simp [parse, shape, h]) (.inl ⟨rfl, by omega, by omega, rfl, rfl, rfl⟩) (fun h0 => ?_)
    have b0 := dg_bd h0
    refine p_dig hs (i := 0 + 1) (by omega) (by omega) (by omega) (by omega) (fun h => by simp [parse, shape, show dg s 1 = false from h]) (.inl ⟨rfl, by omega, by omega, rfl, rfl, rfl⟩) (fun h1 => ?_)
    have b1 := dg_bd h1
    refine p_dig hs (i := 0 + 1 + 1) (by omega) (by omega) (by omega) (by omega) (fun h => by simp [parse, shape, show dg s 2 = false from h]) (.inl ⟨rfl, by omega, by omega, rfl, rfl, rfl⟩) (fun h2 => ?_)
    have b2 := dg_bd h2
    refine p_dig hs (i := 0 + 1 + 1 + 1) (by omega) (by omega) (by omega) (by omega) (fun h => by simp [parse, shape, show dg s 3 = false from h]) (.inl ⟨rfl, by omega, by omega, rfl, rfl, rfl⟩) (fun h3 => ?_)
    have b3 := dg_bd h3
    refine p_dash hs (i := 0 + 1 + 1 + 1 + 1) (.inl rfl) (by omega) (by omega) (fun h => by simp [parse, shape, show bt s 4 ≠ 45 from h]) (fun h4 => ?_)
    refine p_dig hs (i := 0 + 1 + 1 + 1 + 1 + 1) (by omega) (by omega) (by omega) (by omega) (fun h => by simp [parse, shape, show dg s 5 = false from h]) (.inr (.inl ⟨rfl, by omega, by omega, rfl, rfl, rfl⟩)) (fun h5 => ?_)
    have b5 := dg_bd h5
    refine p_dig hs (i := 0 + 1 + 1 + 1 + 1 + 1 + 1) (by omega) (by omega) (by omega) (by omega) (fun h => by simp [parse, shape, show dg s 6 = false from h]) (.inr (.inl ⟨rfl, by omega, by omega, rfl, rfl, rfl⟩)) (fun h6 => ?_)
    have b6 := dg_bd h6
    refine p_dash hs (i := 0 + 1 + 1 + 1 + 1 + 1 + 1 + 1) (.inr rfl) (by omega) (by omega) (fun h => by simp [parse, shape, show bt s 7 ≠ 45 from h]) (fun h7 => ?_)
    refine p_dig hs (i := 0 + 1 + 1 + 1 + 1 + 1 + 1 + 1 + 1) (by omega) (by omega) (by omega) (by omega) (fun h => by simp [parse, shape, show dg s 8 = false from h]) (.inr (.inr ⟨rfl, by omega, by omega, rfl, rfl, rfl⟩)) (fun h8 => ?_)
    have b8 := dg_bd h8
    refine p_dig hs (i := 0 + 1 + 1 + 1 + 1 + 1 + 1 + 1 + 1 + 1) (by omega) (by omega) (by omega) (by omega) (fun h => by simp [parse, shape, show dg s 9 = false from h]) (.inr (.inr ⟨rfl, by omega, by omega, rfl, rfl, rfl⟩)) (fun h9 => ?_)
    refine E.is (p_end hs) ?_
    have sh : shape s = true := by
      simp only [shape, hs, show bt s 4 = 45 from h4, show bt s 7 = 45 from h7, h0, show dg s 1 = true from h1, show dg s 2 = true from h2, show dg s 3 = true from h3, show dg s 5 = true from h5, show dg s 6 = true from h6, show dg s 8 = true from h8, show dg s 9 = true from h9]
      rfl
    rw [parse, if_pos sh]
    congr 1
    · show 10 * (10 * (10 * (10 * 0 + num s 0) + num s 1) + num s 2) + num s 3 = _; omega
    · show 10 * (10 * 0 + num s 5) + num s 6 = _; omega
    · show 10 * (10 * 0 + num s 8) + num s 9 = _; omega
  · refine E.neg hs (E.now ?_)
    simp [parse, shape, hs]
end Go.Proofs.Ytemelfcpmbcnaaa.Dt
