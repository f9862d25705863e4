/- Small functions on references, in the program and in the document's answer. -/
import Derived.Test.YtbpckmbepgojfaaDoorE
import Derived.Test.YtbpckmbepgojfaaDoorPx0
import Derived.Test.YtbpckmbepgojfaaDoorPx2
import Derived.Test.YtbpckmbepgojfaaDoorPx8
namespace Go.Proofs.YtbpckmbepgojfaaDoor.Ad
open Go.RowKit Go.Proofs.YtbpckmbepgojfaaDoor.P Go.Proofs.YtbpckmbepgojfaaDoorW.PrintWords Go.Proofs.YtbpckmbepgojfaaDoorW.PrintLast
set_option linter.unusedVariables false
set_option linter.unusedSimpArgs false

theorem a_lives_is : Ev (fun k => octavolaw08_lives.f k) true :=
  Ev.of (k := 400) (fun k => octavolaw08_lives.mono k) (by decide +kernel)
theorem a_fin : Ev (fun k => (octavolaw08_lives.f k).bind fun t => some t) true := Ev.bind a_lives_is (Ev.now _)
theorem beq_dec {α : Type} [BEq α] [LawfulBEq α] [DecidableEq α] (x y : α) : (x == y) = decide (x = y) := by
  rw [Bool.eq_iff_iff]
  simp
theorem ite_same {c : Prop} [Decidable c] {α : Type} {g f : Nat → Option α} {x y : α} (h : c → Ev g x) (k : ¬ c → Ev f y) : Ev (fun n => if c then g n else f n) (if c then x else y) :=
  E.ite (fun hc => by rw [if_pos hc]; exact h hc) (fun hc => by rw [if_neg hc]; exact k hc)

/-- a row and a column of the sheet -/
def ins (a b : Int) : Bool := decide (1 ≤ a ∧ a ≤ 64 ∧ 1 ≤ b ∧ b ≤ 26)
theorem inside_is (a b : Int) : addr_inside.f a b = some (ins a b) := by
  unfold addr_inside.f ins
  repeat' split
  all_goals (congr 1; rw [Bool.eq_iff_iff]; simp; try omega)
theorem rin_is (a b : Int) : octavoref08_in.f a b = some (ins a b) := by
  unfold octavoref08_in.f ins
  repeat' split
  all_goals (congr 1; rw [Bool.eq_iff_iff]; simp; try omega)
def lett (b : Int) : Bool := decide ((97 ≤ b ∧ b ≤ 122) ∨ (65 ≤ b ∧ b ≤ 90))
def digt (b : Int) : Bool := decide (48 ≤ b ∧ b ≤ 57)
theorem letter_is (b : Int) : addr_letter.f b = some (lett b) := by
  unfold addr_letter.f lett
  repeat' split
  all_goals (congr 1; rw [Bool.eq_iff_iff]; simp; try omega)
theorem rLetter_is (b : Int) : octavoref08_Letter.f b = some (lett b) := by
  unfold octavoref08_Letter.f lett
  repeat' split
  all_goals (congr 1; rw [Bool.eq_iff_iff]; simp; try omega)
theorem digit_is (b : Int) : addr_digit.f b = some (digt b) := by
  unfold addr_digit.f digt
  repeat' split
  all_goals (congr 1; rw [Bool.eq_iff_iff]; simp; try omega)
theorem rDigit_is (b : Int) : octavoref08_Digit.f b = some (digt b) := by
  unfold octavoref08_Digit.f digt
  repeat' split
  all_goals (congr 1; rw [Bool.eq_iff_iff]; simp; try omega)

end Go.Proofs.YtbpckmbepgojfaaDoor.Ad
