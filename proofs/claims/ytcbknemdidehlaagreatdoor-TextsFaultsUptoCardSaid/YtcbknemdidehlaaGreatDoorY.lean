/- Small words of this session: texts, entries of the library. -/
import Derived.Test.YtcbknemdidehlaaGreatDoorX
import Derived.Lib.Bytealg
import Derived.Laws.Externs
import Derived.Laws.RangeString
import Derived.Laws.RangeAny
import Derived.Shelf.Bits.Mul64
import Derived.Shelf.Spec.BitsCarry
namespace Go.Proofs.YtcbknemdidehlaaGreatDoor.X
open Go.RowKit Go.Proofs.YtcbknemdidehlaaGreatDoorW.PrintWords
set_option linter.unusedVariables false
set_option linter.unusedSimpArgs false
def cntf : List UInt8 → Int → Option Int
 | [], n => some n
 | c :: l, n => if (c.toNat : Int) < 48 ∨ (c.toNat : Int) > 57 then none else cntf l (if 10 * n + ((c.toNat : Int) - 48) > 1125899906842624 then 1125899906842624 else 10 * n + ((c.toNat : Int) - 48))
theorem drop_get (s : ByteArray) (pos : Nat) (h : pos < s.size) : s.data.toList.drop pos = s[pos] :: s.data.toList.drop (pos + 1) := by
 have hl : pos < s.data.toList.length := by simpa using h
 rw [List.drop_eq_getElem_cons hl]
 rfl
theorem below_iter {B : Nat} {w w' : World} (h : Below B w w') (hB : B ≤ w'.heap.size) (s : ByteArray) (pos : Nat) : Below B w (w'.iter s pos) := h.alloc hB _
theorem rep_set (a : Nat) (L : List Int) (v : Int) : (List.replicate (a + 1) 0 ++ L).set a v = List.replicate a 0 ++ v :: L := by
 rw [List.replicate_succ', List.append_assoc, List.set_append_right _ _ (by simp)]
 simp
theorem at_list (l : List Int) (b : Nat) (h : b < l.length) : ((l.map (Value.int .u8)).toArray)[b]? = some (Value.int .u8 (l[b]'h)) := by simp [h]
theorem set_list (l : List Int) (b : Nat) (v : Int) : ((l.map (Value.int .u8)).toArray).setIfInBounds b (Value.int .u8 v) = ((l.set b v).map (Value.int .u8)).toArray := by simp [List.map_set]
end Go.Proofs.YtcbknemdidehlaaGreatDoor.X
