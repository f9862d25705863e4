/- Small functions on references, in the program and in the document's answer. -/
import Derived.Test.YtbpckmbepgojfaaDoorE
import Derived.Test.YtbpckmbepgojfaaDoorPx0
import Derived.Test.YtbpckmbepgojfaaDoorPx2
import Derived.Test.YtbpckmbepgojfaaDoorPx5
import Derived.Test.YtbpckmbepgojfaaDoorPx7
import Derived.Test.YtbpckmbepgojfaaDoorPx8
namespace Go.Proofs.YtbpckmbepgojfaaDoor.Ad
open Go.RowKit Go.Proofs.YtbpckmbepgojfaaDoor.P Go.Proofs.YtbpckmbepgojfaaDoorW.PrintWords Go.Proofs.YtbpckmbepgojfaaDoorW.PrintLast
set_option linter.unusedVariables false
set_option linter.unusedSimpArgs false

theorem a_lives_is : Ev (fun k => octavolaw08_lives.f k) true :=
  Ev.of (k := 400) (fun k => octavolaw08_lives.mono k) (by decide +kernel)
theorem a_fin : Ev (fun k => (octavolaw08_lives.f k).bind fun t => some t) true := Ev.bind a_lives_is (Ev.now _)
theorem beq_dec {α : Type} [BEq α] [LawfulBEq α] [DecidableEq α] (x y : α) : (x == y) = decide (x = y) := by
  rw [Bool.eq_iff_iff]
  simp
theorem ite_same {c : Prop} [Decidable c] {α : Type} {g f : Nat → Option α} {x y : α} (h : c → Ev g x) (k : ¬ c → Ev f y) : Ev (fun n => if c then g n else f n) (if c then x else y) :=
  E.ite (fun hc => by rw [if_pos hc]; exact h hc) (fun hc => by rw [if_neg hc]; exact k hc)

/-- a row and a column of the sheet -/
def ins (a b : Int) : Bool := decide (1 ≤ a ∧ a ≤ 64 ∧ 1 ≤ b ∧ b ≤ 26)
theorem inside_is (a b : Int) : addr_inside.f a b = some (ins a b) := by
  unfold addr_inside.f ins
  repeat' split
  all_goals (congr 1; rw [Bool.eq_iff_iff]; simp; try omega)
theorem rin_is (a b : Int) : octavoref08_in.f a b = some (ins a b) := by
  unfold octavoref08_in.f ins
  repeat' split
  all_goals (congr 1; rw [Bool.eq_iff_iff]; simp; try omega)
def lett (b : Int) : Bool := decide ((97 ≤ b ∧ b ≤ 122) ∨ (65 ≤ b ∧ b ≤ 90))
def digt (b : Int) : Bool := decide (48 ≤ b ∧ b ≤ 57)
theorem letter_is (b : Int) : addr_letter.f b = some (lett b) := by
  unfold addr_letter.f lett
  repeat' split
  all_goals (congr 1; rw [Bool.eq_iff_iff]; simp; try omega)
theorem rLetter_is (b : Int) : octavoref08_Letter.f b = some (lett b) := by
  unfold octavoref08_Letter.f lett
  repeat' split
  all_goals (congr 1; rw [Bool.eq_iff_iff]; simp; try omega)
theorem digit_is (b : Int) : addr_digit.f b = some (digt b) := by
  unfold addr_digit.f digt
  repeat' split
  all_goals (congr 1; rw [Bool.eq_iff_iff]; simp; try omega)
theorem rDigit_is (b : Int) : octavoref08_Digit.f b = some (digt b) := by
  unfold octavoref08_Digit.f digt
  repeat' split
  all_goals (congr 1; rw [Bool.eq_iff_iff]; simp; try omega)

theorem Box_is (b s : ByteArray) (r c : Int) (x y : Bool) (b' s' : ByteArray) (r' c' : Int) (x' y' : Bool) : addr_Box.f b s r c x y b' s' r' c' x' y' = some (mn r r', mn c c', mx r r', mx c c') := rfl
theorem rBox_is (b s : ByteArray) (r c : Int) (x y : Bool) (b' s' : ByteArray) (r' c' : Int) (x' y' : Bool) : octavoref08_Box.f b s r c x y b' s' r' c' x' y' = some (mn r r', mn c c', mx r r', mx c c') := by
  have g : ∀ p q : Int, (p > q → mn p q = q ∧ mx p q = p) ∧ (¬ p > q → mn p q = p ∧ mx p q = q) := by
    intro p q
    constructor
    · intro h
      exact ⟨if_pos h, if_neg (by omega)⟩
    · intro h
      refine ⟨if_neg h, ?_⟩
      by_cases e : p < q
      · exact if_pos e
      · exact (if_neg e).trans (by omega)
  unfold octavoref08_Box.f
  by_cases h : r > r'
  · rw [if_pos h, ((g r r').1 h).1, ((g r r').1 h).2]
    by_cases k : c > c'
    · rw [if_pos k, ((g c c').1 k).1, ((g c c').1 k).2]
    · rw [if_neg k, ((g c c').2 k).1, ((g c c').2 k).2]
  · rw [if_neg h, ((g r r').2 h).1, ((g r r').2 h).2]
    by_cases k : c > c'
    · rw [if_pos k, ((g c c').1 k).1, ((g c c').1 k).2]
    · rw [if_neg k, ((g c c').2 k).1, ((g c c').2 k).2]
end Go.Proofs.YtbpckmbepgojfaaDoor.Ad
