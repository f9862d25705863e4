/- The number of any text, in the program and in the document's answer. -/
import Derived.Test.YtbpckmbepgojfaaDoorNumI
import Derived.Test.YtbpckmbepgojfaaDoorNumJ
import Derived.Test.YtbpckmbepgojfaaDoorPx0
namespace Go.Proofs.YtbpckmbepgojfaaDoor.Nm
open Go.RowKit Go.Proofs.YtbpckmbepgojfaaDoor.P Go.Proofs.YtbpckmbepgojfaaDoorW.PrintWords Go.Proofs.YtbpckmbepgojfaaDoorW.PrintLast
set_option linter.unusedVariables false
set_option linter.unusedSimpArgs false

theorem idx_bd : ∀ (l : List UInt8) (c : UInt8), Lib.indexByte l c = -1 ∨ (0 ≤ Lib.indexByte l c ∧ Lib.indexByte l c < l.length) := by
  intro l c
  induction l with
  | nil => exact .inl rfl
  | cons b l ih =>
    show (if b == c then (0 : Int) else if Lib.indexByte l c == -1 then -1 else Lib.indexByte l c + 1) = -1 ∨ (0 ≤ (if b == c then (0 : Int) else if Lib.indexByte l c == -1 then -1 else Lib.indexByte l c + 1) ∧ (if b == c then (0 : Int) else if Lib.indexByte l c == -1 then -1 else Lib.indexByte l c + 1) < ((b :: l).length : Int))
    simp only [List.length_cons, beq_iff_eq]
    by_cases h : b = c
    · rw [if_pos h]; omega
    · rw [if_neg h]
      by_cases h2 : Lib.indexByte l c = -1
      · rw [if_pos h2]; exact .inl rfl
      · rw [if_neg h2]; omega
theorem idx_cons (b c : UInt8) (l : List UInt8) : Lib.indexByte (b :: l) c = if b = c then 0 else if Lib.indexByte l c = -1 then -1 else Lib.indexByte l c + 1 := by
  show (if b == c then (0 : Int) else if Lib.indexByte l c == -1 then -1 else Lib.indexByte l c + 1) = _
  simp only [beq_iff_eq]

end Go.Proofs.YtbpckmbepgojfaaDoor.Nm
