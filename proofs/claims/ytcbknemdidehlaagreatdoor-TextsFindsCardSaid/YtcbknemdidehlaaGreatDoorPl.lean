/- What the functions come to, in plain words. -/
import Derived.Test.YtcbknemdidehlaaGreatDoorPx0
import Derived.Test.YtcbknemdidehlaaGreatDoorX
import Derived.Lib.Mul64
import Derived.Laws.Bits64
import Derived.Laws.Strings
import Derived.Test.YtcbknemdidehlaaGreatDoorY
import Derived.Test.YtcbknemdidehlaaGreatDoorPx3
import Derived.Test.YtcbknemdidehlaaGreatDoorPx2
/- Small words on rounds: what a printed function comes to, given rounds enough. -/
namespace Go.Proofs.YtcbknemdidehlaaGreatDoor.E
open Go.RowKit Go.Proofs.YtcbknemdidehlaaGreatDoorW.PrintWords
set_option linter.unusedVariables false
set_option linter.unusedSimpArgs false

theorem pos {α : Type} {c : Prop} [Decidable c] {g f : Nat → Option α} {r : α} (h : c) (k : Ev g r) : Ev (fun n => if c then g n else f n) r := Ev.congr (fun _ => if_pos h) k
theorem neg {α : Type} {c : Prop} [Decidable c] {g f : Nat → Option α} {r : α} (h : ¬ c) (k : Ev f r) : Ev (fun n => if c then g n else f n) r := Ev.congr (fun _ => if_neg h) k
theorem now {α : Type} {r r' : α} (h : r = r') : Ev (fun _ => some r) r' := h ▸ Ev.now r
/-- what a function that runs at least once does: its text at one round less -/
theorem succ {α : Type} {g : Nat → Option α} {r : α} (k : Ev (fun n => g (n + 1)) r) : Ev g r := Ev.step (fun _ => rfl) k
theorem w64 {x : Int} (h : -9223372036854775808 ≤ x) (k : x ≤ 9223372036854775807) : wrap64 x = x := by
  unfold wrap64
  omega
end Go.Proofs.YtcbknemdidehlaaGreatDoor.E

/- What the short functions on numbers come to: good ones, floors, rounding. -/
namespace Go.Proofs.YtcbknemdidehlaaGreatDoor.Nm
open Go.RowKit Go.Proofs.YtcbknemdidehlaaGreatDoor.P Go.Proofs.YtcbknemdidehlaaGreatDoorW.PrintWords Go.Proofs.YtcbknemdidehlaaGreatDoorW.PrintLast
set_option linter.unusedVariables false
set_option linter.unusedSimpArgs false

abbrev good (n : Int) : Prop := -100000000000 ≤ n ∧ n ≤ 100000000000
/-- an answer, if it is good -/
def out (n : Int) : Int × Bool := if good n then (n, true) else (0, false)
end Go.Proofs.YtcbknemdidehlaaGreatDoor.Nm

/- What the text of a number comes to, in the program and in the document's answer. -/
namespace Go.Proofs.YtcbknemdidehlaaGreatDoor.Nm
open Go.RowKit Go.Proofs.YtcbknemdidehlaaGreatDoor.P Go.Proofs.YtcbknemdidehlaaGreatDoorW.PrintWords Go.Proofs.YtcbknemdidehlaaGreatDoorW.PrintLast
set_option linter.unusedVariables false
set_option linter.unusedSimpArgs false

theorem son_size (x : List Int) : (strOfNums x).size = x.length := by simp [strOfNums, ByteArray.size]

end Go.Proofs.YtcbknemdidehlaaGreatDoor.Nm

/- What the number of a text comes to, in the program and in the document's answer. -/
namespace Go.Proofs.YtcbknemdidehlaaGreatDoor.Nm
open Go.RowKit Go.Proofs.YtcbknemdidehlaaGreatDoor.P Go.Proofs.YtcbknemdidehlaaGreatDoorW.PrintWords Go.Proofs.YtcbknemdidehlaaGreatDoorW.PrintLast
set_option linter.unusedVariables false
set_option linter.unusedSimpArgs false

theorem sz (s : ByteArray) : s.data.toList.length = s.size := by rw [Array.length_toList]; rfl
end Go.Proofs.YtcbknemdidehlaaGreatDoor.Nm

/- What values are turned into, in the program and in the document's answer. -/
namespace Go.Proofs.YtcbknemdidehlaaGreatDoor.Vl
open Go.RowKit Go.Proofs.YtcbknemdidehlaaGreatDoor.P Go.Proofs.YtcbknemdidehlaaGreatDoor.Nm Go.Proofs.YtcbknemdidehlaaGreatDoorW.PrintWords Go.Proofs.YtcbknemdidehlaaGreatDoorW.PrintLast
set_option linter.unusedVariables false
set_option linter.unusedSimpArgs false

/-! ### texts as values -/
/-- the text in capital letters -/
def up (s : ByteArray) : ByteArray := X.mapS X.gUpper s
def lo (s : ByteArray) : ByteArray := X.mapS X.gLower s
theorem Upper_is {s : ByteArray} (h : s.size ≤ 140737488351232) : value_Upper.f s = some (up s) := if_pos (by omega)
theorem Lower_is {s : ByteArray} (h : s.size ≤ 140737488351232) : value_Lower.f s = some (lo s) := if_pos (by omega)
/-- does a text begin with an apostrophe -/
def q (s : ByteArray) : Bool := decide (0 < s.size ∧ bt s 0 = 39)
/-- is it a value -/
def gdv (a b : Int) (s : ByteArray) : Prop :=
  (a = 0 ∧ b = 0 ∧ s.size = 0) ∨ (a = 1 ∧ good b ∧ s.size = 0) ∨ (a = 2 ∧ b = 0 ∧ s.size ≤ 255) ∨ (a = 3 ∧ (b = 0 ∨ b = 1) ∧ s.size = 0) ∨ (a = 4 ∧ 1 ≤ b ∧ b ≤ 8 ∧ s.size = 0)
instance (a b : Int) (s : ByteArray) : Decidable (gdv a b s) := by unfold gdv good; infer_instance
end Go.Proofs.YtcbknemdidehlaaGreatDoor.Vl

/- Which of two values is greater, in the program and in the document's answer: an order. -/
namespace Go.Proofs.YtcbknemdidehlaaGreatDoor.Vl
open Go.RowKit Go.Proofs.YtcbknemdidehlaaGreatDoor.P Go.Proofs.YtcbknemdidehlaaGreatDoor.Nm Go.Proofs.YtcbknemdidehlaaGreatDoorW.PrintWords Go.Proofs.YtcbknemdidehlaaGreatDoorW.PrintLast
set_option linter.unusedVariables false
set_option linter.unusedSimpArgs false

theorem e0 : (⟨#[]⟩ : ByteArray).size ≤ 140737488351232 := by decide
/-- which of two places is greater -/
def cp (x y : Int × Int × ByteArray) : Int :=
  if x.1 = y.1 then (if x.2.1 = y.2.1 then (if x.2.2.toList = y.2.2.toList then 0 else if Op.bytesLess x.2.2.toList y.2.2.toList = true then -1 else 1) else if x.2.1 < y.2.1 then -1 else 1) else if x.1 < y.1 then -1 else 1
end Go.Proofs.YtcbknemdidehlaaGreatDoor.Vl

/- The characters of a text, in the program and in the document's answer. -/
namespace Go.Proofs.YtcbknemdidehlaaGreatDoor.Vl
open Go.RowKit Go.Proofs.YtcbknemdidehlaaGreatDoor.P Go.Proofs.YtcbknemdidehlaaGreatDoor.Nm Go.Proofs.YtcbknemdidehlaaGreatDoorW.PrintWords Go.Proofs.YtcbknemdidehlaaGreatDoorW.PrintLast
set_option linter.unusedVariables false
set_option linter.unusedSimpArgs false

/-! ### the characters -/
/-- the characters from a place on (at most m of them) -/
def chs (s : ByteArray) : Nat → Nat → List ByteArray
  | 0, _ => []
  | m + 1, pos => if pos < s.size then s.extract pos (pos + (Utf8.decode s pos).2) :: chs s m (pos + (Utf8.decode s pos).2) else []
theorem Chars_l {s : ByteArray} (hs : s.size ≤ 8796093022207) : ∀ (m pos : Nat) (l : List ByteArray), s.size ≤ pos + m → l.length ≤ pos → Ev (fun k => value_Chars.l0 k s pos l) (l ++ chs s m pos) := by
  intro m
  induction m with
  | zero =>
    intro pos l h1 h2
    refine E.succ (E.neg (by omega) ?_)
    simp only [chs, List.append_nil]
    exact Ev.now _
  | succ m ih =>
    intro pos l h1 h2
    unfold chs
    by_cases c : pos < s.size
    · rw [if_pos c]
      obtain ⟨d1, d2, _⟩ := X.dec_facts s pos c
      refine E.succ (E.pos c (E.pos (by omega) ?_))
      have := ih (pos + (Utf8.decode s pos).2) (l ++ [s.extract pos (pos + (Utf8.decode s pos).2)]) (by omega) (by simp; omega)
      rw [List.append_assoc] at this
      exact this
    · rw [if_neg c, List.append_nil]
      exact E.succ (E.neg c (Ev.now _))
/-- all characters of a text -/
def chars (s : ByteArray) : List ByteArray := chs s s.size 0
theorem Chars_is {s : ByteArray} (hs : s.size ≤ 8796093022207) : Ev (fun k => value_Chars.f k s) (chars s) :=
  E.pos (by omega) (Chars_l hs s.size 0 [] (by omega) (by simp))
theorem chs_len (s : ByteArray) : ∀ (m pos : Nat), (chs s m pos).length ≤ m := by
  intro m
  induction m with
  | zero => intro pos; simp [chs]
  | succ m ih =>
    intro pos
    unfold chs
    split
    · simp; exact ih _
    · simp
end Go.Proofs.YtcbknemdidehlaaGreatDoor.Vl
