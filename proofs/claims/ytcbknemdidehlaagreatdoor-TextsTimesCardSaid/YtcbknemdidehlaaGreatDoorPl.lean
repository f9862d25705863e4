/- What the functions come to, in plain words. -/
import Derived.Test.YtcbknemdidehlaaGreatDoorPx0
import Derived.Test.YtcbknemdidehlaaGreatDoorX
import Derived.Lib.Mul64
import Derived.Laws.Bits64
import Derived.Laws.Strings
import Derived.Test.YtcbknemdidehlaaGreatDoorY
import Derived.Test.YtcbknemdidehlaaGreatDoorPx4
import Derived.Test.YtcbknemdidehlaaGreatDoorPx3
/- Small words on rounds: what a printed function comes to, given rounds enough. -/
namespace Go.Proofs.YtcbknemdidehlaaGreatDoor.E
open Go.RowKit Go.Proofs.YtcbknemdidehlaaGreatDoorW.PrintWords
set_option linter.unusedVariables false
set_option linter.unusedSimpArgs false

theorem pos {α : Type} {c : Prop} [Decidable c] {g f : Nat → Option α} {r : α} (h : c) (k : Ev g r) : Ev (fun n => if c then g n else f n) r := Ev.congr (fun _ => if_pos h) k
theorem neg {α : Type} {c : Prop} [Decidable c] {g f : Nat → Option α} {r : α} (h : ¬ c) (k : Ev f r) : Ev (fun n => if c then g n else f n) r := Ev.congr (fun _ => if_neg h) k
theorem ite {α : Type} {c : Prop} [Decidable c] {g f : Nat → Option α} {r : α} (h : c → Ev g r) (k : ¬ c → Ev f r) : Ev (fun n => if c then g n else f n) r := by
  by_cases e : c
  · exact pos e (h e)
  · exact neg e (k e)
theorem now {α : Type} {r r' : α} (h : r = r') : Ev (fun _ => some r) r' := h ▸ Ev.now r
theorem is {α : Type} {g : Nat → Option α} {r r' : α} (h : Ev g r) (e : r = r') : Ev g r' := e ▸ h
/-- what a function that runs at least once does: its text at one round less -/
theorem succ {α : Type} {g : Nat → Option α} {r : α} (k : Ev (fun n => g (n + 1)) r) : Ev g r := Ev.step (fun _ => rfl) k
theorem w64 {x : Int} (h : -9223372036854775808 ≤ x) (k : x ≤ 9223372036854775807) : wrap64 x = x := by
  unfold wrap64
  omega
end Go.Proofs.YtcbknemdidehlaaGreatDoor.E

/- What the short functions on numbers come to: good ones, floors, rounding. -/
namespace Go.Proofs.YtcbknemdidehlaaGreatDoor.Nm
open Go.RowKit Go.Proofs.YtcbknemdidehlaaGreatDoor.P Go.Proofs.YtcbknemdidehlaaGreatDoorW.PrintWords Go.Proofs.YtcbknemdidehlaaGreatDoorW.PrintLast
set_option linter.unusedVariables false
set_option linter.unusedSimpArgs false

abbrev good (n : Int) : Prop := -100000000000 ≤ n ∧ n ≤ 100000000000
/-- an answer, if it is good -/
def out (n : Int) : Int × Bool := if good n then (n, true) else (0, false)
end Go.Proofs.YtcbknemdidehlaaGreatDoor.Nm

/- What the text of a number comes to, in the program and in the document's answer. -/
namespace Go.Proofs.YtcbknemdidehlaaGreatDoor.Nm
open Go.RowKit Go.Proofs.YtcbknemdidehlaaGreatDoor.P Go.Proofs.YtcbknemdidehlaaGreatDoorW.PrintWords Go.Proofs.YtcbknemdidehlaaGreatDoorW.PrintLast
set_option linter.unusedVariables false
set_option linter.unusedSimpArgs false

theorem son_size (x : List Int) : (strOfNums x).size = x.length := by simp [strOfNums, ByteArray.size]

/-! ### noughts at the end -/
theorem nil_iff (x : ByteArray) : x.toList = ([] : List UInt8) ↔ x.size = 0 := by
  rw [ByteArray.toList_eq, ← List.length_eq_zero_iff, Array.length_toList]
  rfl
end Go.Proofs.YtcbknemdidehlaaGreatDoor.Nm

/- What the number of a text comes to, in the program and in the document's answer. -/
namespace Go.Proofs.YtcbknemdidehlaaGreatDoor.Nm
open Go.RowKit Go.Proofs.YtcbknemdidehlaaGreatDoor.P Go.Proofs.YtcbknemdidehlaaGreatDoorW.PrintWords Go.Proofs.YtcbknemdidehlaaGreatDoorW.PrintLast
set_option linter.unusedVariables false
set_option linter.unusedSimpArgs false

/-- are all bytes digits? -/
def dgs : List UInt8 → Bool
  | [] => true
  | c :: l => decide (48 ≤ (c.toNat : Int) ∧ (c.toNat : Int) ≤ 57) && dgs l
/-- the number of digits, from n on -/
def val : List UInt8 → Int → Int
  | [], n => n
  | c :: l, n => val l (10 * n + ((c.toNat : Int) - 48))
/-- so many digits, from least to most? -/
def okd (s : ByteArray) (a b : Int) : Bool := dgs s.data.toList && (decide (a ≤ (s.size : Int)) && decide ((s.size : Int) ≤ b))
theorem sz (s : ByteArray) : s.data.toList.length = s.size := by rw [Array.length_toList]; rfl
def sg (neg : Bool) (n : Int) : Int × Bool := out (if neg = true then -n else n)
/-- the number of a text's parts -/
def fin (neg : Bool) (W R : ByteArray) (point : Bool) : Int × Bool :=
  if okd W 1 12 = true ∧ (point = true → okd R 1 4 = true) then sg neg (val W.data.toList 0 * 10000 + val R.data.toList 0 * 10 ^ (4 - R.size)) else (0, false)

end Go.Proofs.YtcbknemdidehlaaGreatDoor.Nm

/- What values are turned into, in the program and in the document's answer. -/
namespace Go.Proofs.YtcbknemdidehlaaGreatDoor.Vl
open Go.RowKit Go.Proofs.YtcbknemdidehlaaGreatDoor.P Go.Proofs.YtcbknemdidehlaaGreatDoor.Nm Go.Proofs.YtcbknemdidehlaaGreatDoorW.PrintWords Go.Proofs.YtcbknemdidehlaaGreatDoorW.PrintLast
set_option linter.unusedVariables false
set_option linter.unusedSimpArgs false

/-! ### texts as values -/
/-- the text in capital letters -/
def up (s : ByteArray) : ByteArray := X.mapS X.gUpper s
def lo (s : ByteArray) : ByteArray := X.mapS X.gLower s
theorem Upper_is {s : ByteArray} (h : s.size ≤ 140737488351232) : value_Upper.f s = some (up s) := if_pos (by omega)
theorem Lower_is {s : ByteArray} (h : s.size ≤ 140737488351232) : value_Lower.f s = some (lo s) := if_pos (by omega)
/-- does a text begin with an apostrophe -/
def q (s : ByteArray) : Bool := decide (0 < s.size ∧ bt s 0 = 39)
theorem ite_same {c : Prop} [Decidable c] {α : Type} {g f : Nat → Option α} {x y : α} (h : c → Ev g x) (k : ¬ c → Ev f y) : Ev (fun n => if c then g n else f n) (if c then x else y) :=
  E.ite (fun hc => by rw [if_pos hc]; exact h hc) (fun hc => by rw [if_neg hc]; exact k hc)
/-- is it a value -/
def gdv (a b : Int) (s : ByteArray) : Prop :=
  (a = 0 ∧ b = 0 ∧ s.size = 0) ∨ (a = 1 ∧ good b ∧ s.size = 0) ∨ (a = 2 ∧ b = 0 ∧ s.size ≤ 255) ∨ (a = 3 ∧ (b = 0 ∨ b = 1) ∧ s.size = 0) ∨ (a = 4 ∧ 1 ≤ b ∧ b ≤ 8 ∧ s.size = 0)
instance (a b : Int) (s : ByteArray) : Decidable (gdv a b s) := by unfold gdv good; infer_instance
end Go.Proofs.YtcbknemdidehlaaGreatDoor.Vl

/- Which of two values is greater, in the program and in the document's answer: an order. -/
namespace Go.Proofs.YtcbknemdidehlaaGreatDoor.Vl
open Go.RowKit Go.Proofs.YtcbknemdidehlaaGreatDoor.P Go.Proofs.YtcbknemdidehlaaGreatDoor.Nm Go.Proofs.YtcbknemdidehlaaGreatDoorW.PrintWords Go.Proofs.YtcbknemdidehlaaGreatDoorW.PrintLast
set_option linter.unusedVariables false
set_option linter.unusedSimpArgs false

theorem e0 : (⟨#[]⟩ : ByteArray).size ≤ 140737488351232 := by decide
/-- which of two places is greater -/
def cp (x y : Int × Int × ByteArray) : Int :=
  if x.1 = y.1 then (if x.2.1 = y.2.1 then (if x.2.2.toList = y.2.2.toList then 0 else if Op.bytesLess x.2.2.toList y.2.2.toList = true then -1 else 1) else if x.2.1 < y.2.1 then -1 else 1) else if x.1 < y.1 then -1 else 1
end Go.Proofs.YtcbknemdidehlaaGreatDoor.Vl

/- The characters of a text, in the program and in the document's answer. -/
namespace Go.Proofs.YtcbknemdidehlaaGreatDoor.Vl
open Go.RowKit Go.Proofs.YtcbknemdidehlaaGreatDoor.P Go.Proofs.YtcbknemdidehlaaGreatDoor.Nm Go.Proofs.YtcbknemdidehlaaGreatDoorW.PrintWords Go.Proofs.YtcbknemdidehlaaGreatDoorW.PrintLast
set_option linter.unusedVariables false
set_option linter.unusedSimpArgs false

theorem bt_get! (s : ByteArray) (i : Nat) : bt s (i : Int) = ((s.get! i).toNat : Int) := by
  unfold bt
  simp only [Int.toNat_natCast]
  by_cases h : i < s.size
  · rw [dif_pos h, X.get_ s i h]
  · rw [dif_neg h]
    have : s.get! i = 0 := by
      show s.data[i]! = 0
      rw [getElem!_neg _ _ (by simpa using h)]
      rfl
    rw [this]
    rfl
/-- how many bytes the first character has, by its bytes -/
def wd (n b0 b1 b2 b3 : Int) : Int :=
  if b0 < 128 then 1
  else if 194 ≤ b0 ∧ b0 ≤ 223 then (if n < 2 ∨ b1 < 128 ∨ b1 > 191 then 1 else 2)
  else if 224 ≤ b0 ∧ b0 ≤ 239 then (if n < 3 ∨ b1 < (if b0 = 224 then 160 else 128) ∨ b1 > (if b0 = 237 then 159 else 191) ∨ b2 < 128 ∨ b2 > 191 then 1 else 3)
  else if 240 ≤ b0 ∧ b0 ≤ 244 then (if n < 4 ∨ b1 < (if b0 = 240 then 144 else 128) ∨ b1 > (if b0 = 244 then 143 else 191) ∨ b2 < 128 ∨ b2 > 191 ∨ b3 < 128 ∨ b3 > 191 then 1 else 4)
  else 1
set_option maxHeartbeats 4000000 in
theorem wd_is (n b0 b1 b2 b3 : Nat) (h0 : b0 < 256) (h1 : b1 < 256) (h2 : b2 < 256) (h3 : b3 < 256) : ((Lib.decodeN n b0 b1 b2 b3).2 : Int) = wd n b0 b1 b2 b3 := by
  unfold wd
  rcases Lib.decodeN_shape n b0 b1 b2 b3 with ⟨c, e⟩ | ⟨c1, c2, c3, cv, e⟩ | ⟨c1, c2, c3, c4, cv, cs, e⟩ | ⟨c1, c2, c3, c4, c5, cv, cw, e⟩ | e
  · rw [e, if_pos (by omega)]; rfl
  · rw [e, if_neg (by omega), if_pos (by omega), if_neg (by omega)]; rfl
  · rw [e, if_neg (by omega), if_neg (by omega), if_pos (by omega)]
    rw [if_neg (by split <;> split <;> omega)]; rfl
  · rw [e, if_neg (by omega), if_neg (by omega), if_neg (by omega), if_pos (by omega)]
    rw [if_neg (by split <;> split <;> omega)]; rfl
  · rw [e]
    have e2 := e
    unfold Lib.decodeN at e2
    by_cases a : b0 < 128
    · rw [if_pos a] at e2
      injection e2 with e2 _
      omega
    rw [if_neg a] at e2
    rw [if_neg (by omega)]
    by_cases b : b0 / 32 = 6 ∧ (1 < n ∧ b1 / 64 = 2)
    · rw [if_pos b] at e2
      by_cases c : b0 % 32 * 64 + b1 % 64 ≥ 128
      · rw [if_pos c] at e2; injection e2 with _ e2; omega
      · rw [if_neg (by omega), if_neg (by omega), if_neg (by omega)]; rfl
    rw [if_neg b] at e2
    by_cases p2 : (194 : Int) ≤ b0 ∧ (b0 : Int) ≤ 223
    · rw [if_pos p2, if_pos (by omega)]; rfl
    rw [if_neg p2]
    by_cases p3 : (224 : Int) ≤ b0 ∧ (b0 : Int) ≤ 239
    · rw [if_pos p3]
      by_cases d : b0 / 16 = 14 ∧ (1 < n ∧ b1 / 64 = 2) ∧ (2 < n ∧ b2 / 64 = 2)
      · rw [if_pos d] at e2
        split at e2
        · injection e2 with _ e2; omega
        · rw [if_pos (by split <;> split <;> omega)]; rfl
      · rw [if_pos (by split <;> split <;> omega)]; rfl
    rw [if_neg p3]
    by_cases p4 : (240 : Int) ≤ b0 ∧ (b0 : Int) ≤ 244
    · rw [if_pos p4]
      rw [if_neg (by omega)] at e2
      by_cases d : b0 / 8 = 30 ∧ (1 < n ∧ b1 / 64 = 2) ∧ (2 < n ∧ b2 / 64 = 2) ∧ (3 < n ∧ b3 / 64 = 2)
      · rw [if_pos d] at e2
        split at e2
        · injection e2 with _ e2; omega
        · rw [if_pos (by split <;> split <;> omega)]; rfl
      · rw [if_pos (by split <;> split <;> omega)]; rfl
    rw [if_neg p4]; rfl
theorem width_l (s : ByteArray) (n : Int) (hn : n = 2 ∨ n = 3 ∨ n = 4) (hs : n ≤ s.size) : Ev (fun k => octavoref06_width.l0 k s n 2) (if n = 2 then 2 else if bt s 2 < 128 ∨ bt s 2 > 191 then 1 else if n = 3 then 3 else if bt s 3 < 128 ∨ bt s 3 > 191 then 1 else 4) := by
  have fin : Ev (fun k => octavoref06_width.l0 k s n n) n := E.succ (E.neg (by omega) (Ev.now _))
  have st : ∀ (i : Int) (r : Int), i < n → 0 ≤ i → Ev (fun k => octavoref06_width.l0 k s n (i + 1)) r → Ev (fun k => octavoref06_width.l0 k s n i) (if bt s i < 128 ∨ bt s i > 191 then 1 else r) := by
    intro i r h1 h0 hr
    refine E.succ (E.pos h1 (E.pos h0 (E.pos (by omega) (E.ite (fun c => ?_) (fun c => E.ite (fun d => ?_) (fun d => ?_))))))
    · rw [if_pos (.inl c)]; exact Ev.now _
    · rw [if_pos (.inr d)]; exact Ev.now _
    · rw [if_neg (by omega), E.w64 (by omega) (by omega)]; exact hr
  rcases hn with rfl | rfl | rfl
  · rw [if_pos rfl]; exact fin
  · exact E.is (st 2 3 (by omega) (by omega) fin) (by simp)
  · exact E.is (st 2 _ (by omega) (by omega) (st 3 4 (by omega) (by omega) fin)) (by simp)
theorem width_is {s : ByteArray} (h : 0 < s.size) : Ev (fun k => octavoref06_width.f k s) ((Utf8.decode s 0).2 : Int) := by
  have k0 := (s.get! 0).toNat_lt
  have k1 := (s.get! 1).toNat_lt
  have k2 := (s.get! 2).toNat_lt
  have k3 := (s.get! 3).toNat_lt
  have g0 := bt_get! s 0
  have g1 := bt_get! s 1
  have g2 := bt_get! s 2
  have g3 := bt_get! s 3
  rw [Lib.decode_at, Nat.sub_zero, Nat.zero_add, Nat.zero_add, Nat.zero_add, wd_is _ _ _ _ _ k0 k1 k2 k3, ← g0, ← g1, ← g2, ← g3]
  have e0 : ((0 : Nat) : Int) = 0 := rfl
  have e1 : ((1 : Nat) : Int) = 1 := rfl
  have e2 : ((2 : Nat) : Int) = 2 := rfl
  have e3 : ((3 : Nat) : Int) = 3 := rfl
  rw [e0, e1, e2, e3]
  have b0 : 0 ≤ bt s 0 ∧ bt s 0 ≤ 255 := bt_range s 0
  have j4 : ∀ (n : Int) (x : Bool), Ev (fun k => octavoref06_width.j4 k s n true) 1 := fun n x => by
    refine E.succ ?_
    simp only [octavoref06_width.j4]
    exact E.pos trivial (Ev.now _)
  have j3 : ∀ (n lo hi : Int), (n = 2 ∨ n = 3 ∨ n = 4) → Ev (fun k => octavoref06_width.j3 k s n lo hi) (if (s.size : Int) < n ∨ bt s 1 < lo ∨ bt s 1 > hi then 1 else if n = 2 then 2 else if bt s 2 < 128 ∨ bt s 2 > 191 then 1 else if n = 3 then 3 else if bt s 3 < 128 ∨ bt s 3 > 191 then 1 else 4) := by
    intro n lo hi hn
    refine E.succ ?_
    simp only [octavoref06_width.j3]
    refine E.ite (fun c => ?_) (fun c => E.pos (by omega) (E.ite (fun d => ?_) (fun d => ?_)))
    · rw [if_pos (.inl c)]; exact j4 n true
    · rw [if_pos (.inr (.inl d))]; exact j4 n true
    · by_cases f : bt s 1 > hi
      · rw [if_pos (.inr (.inr f)), show decide (bt s 1 > hi) = true from decide_eq_true f]; exact j4 n true
      · rw [if_neg (by omega), show decide (bt s 1 > hi) = false from decide_eq_false f]
        refine E.succ ?_
        simp only [octavoref06_width.j4]
        exact E.neg (by decide) (width_l s n hn (by omega))
  have j2 : ∀ x : Bool, x = decide (240 ≤ bt s 0 ∧ bt s 0 ≤ 244) → ¬ bt s 0 < 240 ∨ x = false → Ev (fun k => octavoref06_width.j2 k s (bt s 0) 128 191 x) (if x = true then (if (s.size : Int) < 4 ∨ bt s 1 < (if bt s 0 = 240 then 144 else 128) ∨ bt s 1 > (if bt s 0 = 244 then 143 else 191) then 1 else if bt s 2 < 128 ∨ bt s 2 > 191 then 1 else if bt s 3 < 128 ∨ bt s 3 > 191 then 1 else 4) else 1) := by
    intro x hx _
    refine E.succ ?_
    simp only [octavoref06_width.j2]
    refine ite_same (fun _ => ?_) (fun _ => Ev.now _)
    have J := fun lo hi => j3 4 lo hi (.inr (.inr rfl))
    simp only [show ((4 : Int) = 2) = False by simp, show ((4 : Int) = 3) = False by simp, if_false] at J
    refine E.ite (fun c => E.ite (fun d => ?_) (fun d => ?_)) (fun c => E.ite (fun d => ?_) (fun d => ?_))
    · omega
    · rw [if_pos c, if_neg (c := bt s 0 = 244) d]; exact J 144 191
    · rw [if_neg (c := bt s 0 = 240) c, if_pos d]; exact J 128 143
    · rw [if_neg (c := bt s 0 = 240) c, if_neg (c := bt s 0 = 244) d]; exact J 128 191
  have j1 : ∀ x : Bool, x = decide (224 ≤ bt s 0 ∧ bt s 0 ≤ 239) → Ev (fun k => octavoref06_width.j1 k s (bt s 0) 128 191 x) (if x = true then (if (s.size : Int) < 3 ∨ bt s 1 < (if bt s 0 = 224 then 160 else 128) ∨ bt s 1 > (if bt s 0 = 237 then 159 else 191) then 1 else if bt s 2 < 128 ∨ bt s 2 > 191 then 1 else 3) else if 240 ≤ bt s 0 ∧ bt s 0 ≤ 244 then (if (s.size : Int) < 4 ∨ bt s 1 < (if bt s 0 = 240 then 144 else 128) ∨ bt s 1 > (if bt s 0 = 244 then 143 else 191) then 1 else if bt s 2 < 128 ∨ bt s 2 > 191 then 1 else if bt s 3 < 128 ∨ bt s 3 > 191 then 1 else 4) else 1) := by
    intro x hx
    refine E.succ ?_
    simp only [octavoref06_width.j1]
    refine ite_same (fun _ => ?_) (fun _ => ?_)
    · have J := fun lo hi => j3 3 lo hi (.inr (.inl rfl))
      simp only [show ((3 : Int) = 2) = False by simp, show ((3 : Int) = 3) = True by simp, if_false, if_true] at J
      refine E.ite (fun c => E.ite (fun d => ?_) (fun d => ?_)) (fun c => E.ite (fun d => ?_) (fun d => ?_))
      · omega
      · rw [if_pos c, if_neg (c := bt s 0 = 237) d]; exact J 160 191
      · rw [if_neg (c := bt s 0 = 224) c, if_pos d]; exact J 128 159
      · rw [if_neg (c := bt s 0 = 224) c, if_neg (c := bt s 0 = 237) d]; exact J 128 191
    · have J := j2 (decide (240 ≤ bt s 0 ∧ bt s 0 ≤ 244)) rfl
      simp only [decide_eq_true_eq, decide_eq_false_iff_not] at J
      refine E.ite (fun c => ?_) (fun c => ?_)
      · rw [show decide (bt s 0 ≤ 244) = decide (240 ≤ bt s 0 ∧ bt s 0 ≤ 244) by simp; omega]
        exact J (.inl (by omega))
      · rw [show (false : Bool) = decide (240 ≤ bt s 0 ∧ bt s 0 ≤ 244) by simp; omega]
        exact J (.inr (by omega))
  refine E.pos (by omega) ?_
  unfold wd
  refine E.ite (fun c => ?_) (fun c => ?_)
  · rw [if_pos c]; exact Ev.now _
  rw [if_neg c]
  have j0 : ∀ x : Bool, x = decide (194 ≤ bt s 0 ∧ bt s 0 ≤ 223) → Ev (fun k => octavoref06_width.j0 k s (bt s 0) 128 191 x) (if 194 ≤ bt s 0 ∧ bt s 0 ≤ 223 then (if (s.size : Int) < 2 ∨ bt s 1 < 128 ∨ bt s 1 > 191 then 1 else 2)
      else if 224 ≤ bt s 0 ∧ bt s 0 ≤ 239 then (if (s.size : Int) < 3 ∨ bt s 1 < (if bt s 0 = 224 then 160 else 128) ∨ bt s 1 > (if bt s 0 = 237 then 159 else 191) ∨ bt s 2 < 128 ∨ bt s 2 > 191 then 1 else 3)
      else if 240 ≤ bt s 0 ∧ bt s 0 ≤ 244 then (if (s.size : Int) < 4 ∨ bt s 1 < (if bt s 0 = 240 then 144 else 128) ∨ bt s 1 > (if bt s 0 = 244 then 143 else 191) ∨ bt s 2 < 128 ∨ bt s 2 > 191 ∨ bt s 3 < 128 ∨ bt s 3 > 191 then 1 else 4) else 1) := by
    intro x hx
    refine E.succ ?_
    simp only [octavoref06_width.j0]
    by_cases a : 194 ≤ bt s 0 ∧ bt s 0 ≤ 223
    · rw [if_pos a]
      refine E.pos (by rw [hx]; exact decide_eq_true a) ?_
      have J := j3 2 128 191 (.inl rfl)
      simp only [if_true] at J
      exact J
    rw [if_neg a]
    refine E.neg (by rw [hx]; simpa using a) ?_
    have J := j1 (decide (224 ≤ bt s 0 ∧ bt s 0 ≤ 239)) rfl
    simp only [decide_eq_true_eq] at J
    have J2 : Ev (fun k => octavoref06_width.j1 k s (bt s 0) 128 191 (decide (224 ≤ bt s 0 ∧ bt s 0 ≤ 239))) (if 224 ≤ bt s 0 ∧ bt s 0 ≤ 239 then (if (s.size : Int) < 3 ∨ bt s 1 < (if bt s 0 = 224 then 160 else 128) ∨ bt s 1 > (if bt s 0 = 237 then 159 else 191) ∨ bt s 2 < 128 ∨ bt s 2 > 191 then 1 else 3)
      else if 240 ≤ bt s 0 ∧ bt s 0 ≤ 244 then (if (s.size : Int) < 4 ∨ bt s 1 < (if bt s 0 = 240 then 144 else 128) ∨ bt s 1 > (if bt s 0 = 244 then 143 else 191) ∨ bt s 2 < 128 ∨ bt s 2 > 191 ∨ bt s 3 < 128 ∨ bt s 3 > 191 then 1 else 4) else 1) := by
      refine E.is J ?_
      generalize (if bt s 0 = 224 then (160 : Int) else 128) = l1
      generalize (if bt s 0 = 237 then (159 : Int) else 191) = l2
      generalize (if bt s 0 = 240 then (144 : Int) else 128) = l3
      generalize (if bt s 0 = 244 then (143 : Int) else 191) = l4
      repeat' split
      all_goals first | rfl | (exfalso; omega)
    refine E.ite (fun d => ?_) (fun d => ?_)
    · rw [show decide (bt s 0 ≤ 239) = decide (224 ≤ bt s 0 ∧ bt s 0 ≤ 239) by simp; omega]
      exact J2
    · rw [show (false : Bool) = decide (224 ≤ bt s 0 ∧ bt s 0 ≤ 239) by simp; omega]
      exact J2
  refine E.ite (fun d => ?_) (fun d => ?_)
  · rw [show decide (bt s 0 ≤ 223) = decide (194 ≤ bt s 0 ∧ bt s 0 ≤ 223) by simp; omega]
    exact j0 _ rfl
  · rw [show (false : Bool) = decide (194 ≤ bt s 0 ∧ bt s 0 ≤ 223) by simp; omega]
    exact j0 _ rfl

/-! ### the characters -/
/-- the characters from a place on (at most m of them) -/
def chs (s : ByteArray) : Nat → Nat → List ByteArray
  | 0, _ => []
  | m + 1, pos => if pos < s.size then s.extract pos (pos + (Utf8.decode s pos).2) :: chs s m (pos + (Utf8.decode s pos).2) else []
theorem tail_dec (s : ByteArray) (n pos : Nat) : Utf8.decode (s.extract n s.size) pos = Utf8.decode s (n + pos) := by
  have gt : ∀ i, (s.extract n s.size).get! i = s.get! (n + i) := by
    intro i
    by_cases h : n + i < s.size
    · rw [X.get_ _ i (by rw [ByteArray.size_extract]; omega), X.get_ s (n + i) h]
      exact ByteArray.getElem_extract ..
    · have z : ∀ (t : ByteArray) (j : Nat), ¬ j < t.size → t.get! j = 0 := by
        intro t j h
        show t.data[j]! = 0
        rw [getElem!_neg _ _ (by simpa using h)]
        rfl
      rw [z _ i (by rw [ByteArray.size_extract]; omega), z s (n + i) h]
  rw [Lib.decode_at, Lib.decode_at, gt, gt, gt, gt, ByteArray.size_extract]
  rw [show min s.size s.size - n - pos = s.size - (n + pos) by omega]
  simp only [Nat.add_assoc]
theorem Chars_l {s : ByteArray} (hs : s.size ≤ 8796093022207) : ∀ (m pos : Nat) (l : List ByteArray), s.size ≤ pos + m → l.length ≤ pos → Ev (fun k => value_Chars.l0 k s pos l) (l ++ chs s m pos) := by
  intro m
  induction m with
  | zero =>
    intro pos l h1 h2
    refine E.succ (E.neg (by omega) ?_)
    simp only [chs, List.append_nil]
    exact Ev.now _
  | succ m ih =>
    intro pos l h1 h2
    unfold chs
    by_cases c : pos < s.size
    · rw [if_pos c]
      obtain ⟨d1, d2, _⟩ := X.dec_facts s pos c
      refine E.succ (E.pos c (E.pos (by omega) ?_))
      have := ih (pos + (Utf8.decode s pos).2) (l ++ [s.extract pos (pos + (Utf8.decode s pos).2)]) (by omega) (by simp; omega)
      rw [List.append_assoc] at this
      exact this
    · rw [if_neg c, List.append_nil]
      exact E.succ (E.neg c (Ev.now _))
theorem rChars_l {s : ByteArray} (hs : s.size ≤ 8796093022207) : ∀ (m pos : Nat) (l : List ByteArray), s.size ≤ pos + m → pos ≤ s.size → l.length ≤ pos → Ev (fun k => octavoref06_Chars.l0 k (s.extract pos s.size) l) (l ++ chs s m pos) := by
  have base : ∀ (pos : Nat) (l : List ByteArray), ¬ pos < s.size → Ev (fun k => octavoref06_Chars.l0 k (s.extract pos s.size) l) l := fun pos l h => by
    refine E.succ (E.pos ((nil_iff _).2 ?_) (Ev.now _))
    rw [ByteArray.size_extract]; omega
  intro m
  induction m with
  | zero =>
    intro pos l h1 h0 h2
    simp only [chs, List.append_nil]
    exact base pos l (by omega)
  | succ m ih =>
    intro pos l h1 h0 h2
    unfold chs
    by_cases c : pos < s.size
    · rw [if_pos c]
      obtain ⟨d1, d2, _⟩ := X.dec_facts s pos c
      have sz' : (s.extract pos s.size).size = s.size - pos := by rw [ByteArray.size_extract]; omega
      have w := width_is (s := s.extract pos s.size) (by omega)
      rw [tail_dec, Nat.add_zero] at w
      refine E.succ (E.neg (fun h => by have := (nil_iff _).1 h; omega) (Ev.bind w (E.pos (by omega) (E.pos (by omega) (E.pos (by omega) ?_)))))
      have e1 : (s.extract pos s.size).extract 0 (((Utf8.decode s pos).2 : Int)).toNat = s.extract pos (pos + (Utf8.decode s pos).2) := by
        rw [Int.toNat_natCast, ByteArray.extract_extract, Nat.add_zero, Nat.min_eq_left (by omega)]
      have e2 : (s.extract pos s.size).extract (((Utf8.decode s pos).2 : Int)).toNat (s.extract pos s.size).size = s.extract (pos + (Utf8.decode s pos).2) s.size := by
        rw [Int.toNat_natCast, ByteArray.extract_extract, sz', show min (pos + (s.size - pos)) s.size = s.size by omega]
      rw [e1, e2]
      have := ih (pos + (Utf8.decode s pos).2) (l ++ [s.extract pos (pos + (Utf8.decode s pos).2)]) (by omega) (by omega) (by simp; omega)
      rw [List.append_assoc] at this
      exact this
    · rw [if_neg c, List.append_nil]
      exact base pos l c
/-- all characters of a text -/
def chars (s : ByteArray) : List ByteArray := chs s s.size 0
theorem Chars_is {s : ByteArray} (hs : s.size ≤ 8796093022207) : Ev (fun k => value_Chars.f k s) (chars s) :=
  E.pos (by omega) (Chars_l hs s.size 0 [] (by omega) (by simp))
theorem rChars_is {s : ByteArray} (hs : s.size ≤ 8796093022207) : Ev (fun k => octavoref06_Chars.f k s) (chars s) := by
  have := rChars_l hs s.size 0 [] (by omega) (by omega) (by simp)
  rw [show s.extract 0 s.size = s from ByteArray.extract_zero_size] at this
  exact this
theorem chs_len (s : ByteArray) : ∀ (m pos : Nat), (chs s m pos).length ≤ m := by
  intro m
  induction m with
  | zero => intro pos; simp [chs]
  | succ m ih =>
    intro pos
    unfold chs
    split
    · simp; exact ih _
    · simp
end Go.Proofs.YtcbknemdidehlaaGreatDoor.Vl

/- The characters of texts put together. -/
set_option linter.unusedVariables false
namespace Go.Proofs.YtcbknemdidehlaaGreatDoor.Vl
open Go.RowKit
theorem decN_loc {n n' b0 b1 b2 b3 c1 c2 c3 : Nat} (h1 : 1 < (Lib.decodeN n b0 b1 b2 b3).2 → c1 = b1 ∧ 1 < n') (h2 : 2 < (Lib.decodeN n b0 b1 b2 b3).2 → c2 = b2 ∧ 2 < n') (h3 : 3 < (Lib.decodeN n b0 b1 b2 b3).2 → c3 = b3 ∧ 3 < n')
    (hw : (Lib.decodeN n b0 b1 b2 b3).2 ≠ 1 ∨ b0 < 128) : Lib.decodeN n' b0 c1 c2 c3 = Lib.decodeN n b0 b1 b2 b3 := by
  by_cases c0 : b0 < 128
  · unfold Lib.decodeN
    rw [if_pos c0, if_pos c0]
  rcases Lib.decodeN_shape n b0 b1 b2 b3 with ⟨c, e⟩ | ⟨k1, k2, k3, kv, e⟩ | ⟨k1, k2, k3, k4, kv, ks, e⟩ | ⟨k1, k2, k3, k4, k5, kv, kw, e⟩ | e
  · exact absurd c c0
  · rw [e] at h1 ⊢
    obtain ⟨rfl, q1⟩ := h1 (by dsimp only; omega)
    unfold Lib.decodeN
    rw [if_neg c0, if_pos ⟨k1, q1, k3⟩, if_pos kv]
  · rw [e] at h1 h2 ⊢
    obtain ⟨rfl, q1⟩ := h1 (by dsimp only; omega)
    obtain ⟨rfl, q2⟩ := h2 (by dsimp only; omega)
    unfold Lib.decodeN
    rw [if_neg c0, if_neg (by omega), if_pos ⟨k1, ⟨q1, k3⟩, q2, k4⟩, if_pos ⟨kv, by omega⟩]
  · rw [e] at h1 h2 h3 ⊢
    obtain ⟨rfl, q1⟩ := h1 (by dsimp only; omega)
    obtain ⟨rfl, q2⟩ := h2 (by dsimp only; omega)
    obtain ⟨rfl, q3⟩ := h3 (by dsimp only; omega)
    unfold Lib.decodeN
    rw [if_neg c0, if_neg (by omega), if_neg (by omega), if_pos ⟨k1, ⟨q1, k3⟩, ⟨q2, k4⟩, q3, k5⟩, if_pos ⟨kv, by omega⟩]
  · rw [e] at hw
    rcases hw with q | q
    · exact absurd rfl q
    · exact absurd q c0
/-- A whole character stands anywhere for itself. -/
theorem dec_eq (s t : ByteArray) (p q : Nat) (hp : p < s.size) (hw : (Utf8.decode s p).2 ≠ 1 ∨ (s.get! p).toNat < 128) (hq : q + (Utf8.decode s p).2 ≤ t.size)
    (he : ∀ j, j < (Utf8.decode s p).2 → t.get! (q + j) = s.get! (p + j)) : Utf8.decode t q = Utf8.decode s p := by
  obtain ⟨d1, d2, _⟩ := X.dec_facts s p hp
  have e0 : t.get! q = s.get! p := he 0 (by omega)
  rw [Lib.decode_at] at hw hq he d1 ⊢
  rw [Lib.decode_at, e0]
  refine decN_loc (fun h => ⟨?_, by omega⟩) (fun h => ⟨?_, by omega⟩) (fun h => ⟨?_, by omega⟩) hw
  · rw [he 1 h]
  · rw [he 2 h]
  · rw [he 3 h]
/-- Is a character no stray byte? -/
def wch (c : ByteArray) : Bool := !(decide ((c.size : Int) = 1) && (match c[0]? with | some b => decide ((b.toNat : Int) ≥ 128) | none => false))
theorem get_app_l {a b : ByteArray} {i : Nat} (h : i < a.size) : (a ++ b).get! i = a.get! i := by
  rw [X.get_ _ i (by rw [ByteArray.size_append]; omega), X.get_ a i h]
  exact ByteArray.getElem_append_left h
theorem get_ext {s : ByteArray} {p e i : Nat} (h : p + i < e) (he : e ≤ s.size) : (s.extract p e).get! i = s.get! (p + i) := by
  rw [X.get_ _ i (by rw [ByteArray.size_extract]; omega), X.get_ s (p + i) (by omega)]
  exact ByteArray.getElem_extract ..
theorem wch_ext {s : ByteArray} {p : Nat} (hp : p < s.size) (h : wch (s.extract p (p + (Utf8.decode s p).2)) = true) : (Utf8.decode s p).2 ≠ 1 ∨ (s.get! p).toNat < 128 := by
  obtain ⟨d1, d2, _⟩ := X.dec_facts s p hp
  by_cases c : (Utf8.decode s p).2 = 1
  · right
    rw [c] at h
    have z : (s.extract p (p + 1)).size = 1 := by rw [ByteArray.size_extract]; omega
    have g : (s.extract p (p + 1))[0]? = some (s.get! p) := by
      rw [getElem?_pos (s.extract p (p + 1)) 0 (by omega), ← X.get_ _ 0 (by omega), get_ext (by omega) (by omega)]
      rfl
    unfold wch at h
    rw [z, g] at h
    simp at h
    omega
  · exact .inl c
theorem chs_all {s : ByteArray} {m pos : Nat} (h : (chs s (m + 1) pos).all wch = true) (hp : pos < s.size) : ((Utf8.decode s pos).2 ≠ 1 ∨ (s.get! pos).toNat < 128) ∧ (chs s m (pos + (Utf8.decode s pos).2)).all wch = true := by
  unfold chs at h
  rw [if_pos hp, List.all_cons, Bool.and_eq_true] at h
  exact ⟨wch_ext hp h.1, h.2⟩
theorem dec_tail (a b : ByteArray) (i : Nat) : Utf8.decode (a ++ b) (a.size + i) = Utf8.decode b i := by
  rw [← tail_dec, ByteArray.extract_append_eq_right (by rfl) (by rw [ByteArray.size_append])]
theorem chs_tail (a b : ByteArray) : ∀ (m M i : Nat), b.size ≤ i + m → b.size ≤ i + M → chs (a ++ b) M (a.size + i) = chs b m i := by
  intro m
  induction m with
  | zero =>
    intro M i h1 h2
    cases M with
    | zero => rfl
    | succ M =>
      unfold chs
      rw [if_neg (by rw [ByteArray.size_append]; omega)]
  | succ m ih =>
    intro M i h1 h2
    by_cases c : i < b.size
    · cases M with
      | zero => omega
      | succ M =>
        obtain ⟨d1, d2, _⟩ := X.dec_facts b i c
        unfold chs
        rw [if_pos (by rw [ByteArray.size_append]; omega), if_pos c, dec_tail]
        congr 1
        · rw [Nat.add_assoc, ByteArray.extract_append]
          rw [ByteArray.extract_eq_empty_iff.2 (by omega)]
          simp only [Nat.add_sub_cancel_left]
          exact ByteArray.empty_append
        · rw [Nat.add_assoc]
          exact ih M _ (by omega) (by omega)
    · cases M with
      | zero => unfold chs; rw [if_neg c]
      | succ M =>
        unfold chs
        rw [if_neg (by rw [ByteArray.size_append]; omega), if_neg c]
theorem chs_app (a b : ByteArray) : ∀ (m M pos : Nat), a.size ≤ pos + m → pos ≤ a.size → a.size + b.size ≤ pos + M → (chs a m pos).all wch = true → chs (a ++ b) M pos = chs a m pos ++ chs b b.size 0 := by
  intro m
  induction m with
  | zero =>
    intro M pos h1 h2 h3 hw
    have : pos = a.size := by omega
    subst this
    exact chs_tail a b b.size M 0 (by omega) (by omega)
  | succ m ih =>
    intro M pos h1 h2 h3 hw
    by_cases c : pos < a.size
    · obtain ⟨w1, w2⟩ := chs_all hw c
      obtain ⟨d1, d2, _⟩ := X.dec_facts a pos c
      have e : Utf8.decode (a ++ b) pos = Utf8.decode a pos := dec_eq a (a ++ b) pos pos c w1 (by rw [ByteArray.size_append]; omega) (fun j hj => get_app_l (by omega))
      cases M with
      | zero => omega
      | succ M =>
        have i1 := ih M (pos + (Utf8.decode a pos).2) (by omega) (by omega) (by omega) w2
        have u1 : chs (a ++ b) (M + 1) pos = (a ++ b).extract pos (pos + (Utf8.decode a pos).2) :: chs (a ++ b) M (pos + (Utf8.decode a pos).2) := by
          show (if pos < (a ++ b).size then _ else _) = _
          rw [if_pos (by rw [ByteArray.size_append]; omega), e]
        have u2 : chs a (m + 1) pos = a.extract pos (pos + (Utf8.decode a pos).2) :: chs a m (pos + (Utf8.decode a pos).2) := by
          show (if pos < a.size then _ else _) = _
          rw [if_pos c]
        rw [u1, u2, i1, List.cons_append]
        congr 1
        rw [ByteArray.extract_append, Nat.sub_eq_zero_of_le d2]
        have : b.extract (pos - a.size) 0 = ByteArray.empty := ByteArray.extract_eq_empty_iff.2 (by omega)
        rw [this]
        exact ByteArray.append_empty
    · have : pos = a.size := by omega
      subst this
      have u2 : chs a (m + 1) a.size = [] := by
        show (if a.size < a.size then _ else _) = _
        rw [if_neg (by omega)]
      rw [u2]
      exact chs_tail a b b.size M 0 (by omega) (by omega)
theorem chars_app {a : ByteArray} (b : ByteArray) (h : (chars a).all wch = true) : chars (a ++ b) = chars a ++ chars b :=
  chs_app a b a.size (a ++ b).size 0 (by omega) (by omega) (by rw [ByteArray.size_append]; omega) h
end Go.Proofs.YtcbknemdidehlaaGreatDoor.Vl
