/- Small words of this session: texts, entries of the library. -/
import Derived.Test.YtkkfclpodgagdaaX
import Derived.Lib.Bytealg
import Derived.Laws.Externs
import Derived.Laws.RangeString
import Derived.Laws.RangeAny
import Derived.Shelf.Bits.Mul64
import Derived.Shelf.Spec.BitsCarry
namespace Go.Proofs.Ytkkfclpodgagdaa.X
open Go.RowKit Go.Proofs.YtkkfclpodgagdaaW.PrintWords
set_option linter.unusedVariables false
set_option linter.unusedSimpArgs false
def cntf : List UInt8 → Int → Option Int
 | [], n => some n
 | c :: l, n => if (c.toNat : Int) < 48 ∨ (c.toNat : Int) > 57 then none else cntf l (if 10 * n + ((c.toNat : Int) - 48) > 1125899906842624 then 1125899906842624 else 10 * n + ((c.toNat : Int) - 48))
theorem drop_get (s : ByteArray) (pos : Nat) (h : pos < s.size) : s.data.toList.drop pos = s[pos] :: s.data.toList.drop (pos + 1) := by
 have hl : pos < s.data.toList.length := by simpa using h
 rw [List.drop_eq_getElem_cons hl]
 rfl
theorem below_iter {B : Nat} {w w' : World} (h : Below B w w') (hB : B ≤ w'.heap.size) (s : ByteArray) (pos : Nat) : Below B w (w'.iter s pos) := h.alloc hB _
end Go.Proofs.Ytkkfclpodgagdaa.X
