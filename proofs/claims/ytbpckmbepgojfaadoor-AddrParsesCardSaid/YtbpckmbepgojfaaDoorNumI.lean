/- What the text of a number comes to, in the program and in the document's answer. -/
import Derived.Test.YtbpckmbepgojfaaDoorNumA
import Derived.Lib.Mul64
import Derived.Laws.Bits64
import Derived.Laws.Strings
import Derived.Test.YtbpckmbepgojfaaDoorPx0
namespace Go.Proofs.YtbpckmbepgojfaaDoor.Nm
open Go.RowKit Go.Proofs.YtbpckmbepgojfaaDoor.P Go.Proofs.YtbpckmbepgojfaaDoorW.PrintWords Go.Proofs.YtbpckmbepgojfaaDoorW.PrintLast
set_option linter.unusedVariables false
set_option linter.unusedSimpArgs false

theorem son_size (x : List Int) : (strOfNums x).size = x.length := by simp [strOfNums, ByteArray.size]

/-! ### noughts at the end -/
theorem nil_iff (x : ByteArray) : x.toList = ([] : List UInt8) ↔ x.size = 0 := by
  rw [ByteArray.toList_eq, ← List.length_eq_zero_iff, Array.length_toList]
  rfl
theorem bt_extract (s : ByteArray) (a b : Nat) (i : Int) (h : b ≤ s.size) (h0 : 0 ≤ i) (hi : a + i < b) : bt (s.extract a b) i = bt s (a + i) := by
  have h1 : i.toNat < (s.extract a b).size := by rw [ByteArray.size_extract]; omega
  have h2 : ((a : Int) + i).toNat < s.size := by omega
  unfold bt
  rw [dif_pos h1, dif_pos h2]
  congr 2
  rw [ByteArray.getElem_extract]
  congr 1
  omega

theorem bt_son (L : List Int) (i : Nat) (h : i < L.length) (hb : 0 ≤ L[i] ∧ L[i] ≤ 255) : bt (strOfNums L) (i : Int) = L[i] := by
  have h1 : i < (strOfNums L).size := by rw [son_size]; exact h
  have e : (strOfNums L)[i]'h1 = UInt8.ofNat (L[i].toNat) := by
    show (strOfNums L).data[i]'h1 = _
    simp [strOfNums]
  rw [← bt_at (strOfNums L) (i : Int) h1]
  show (((strOfNums L)[i]'h1).toNat : Int) = _
  rw [e, UInt8.toNat_ofNat']
  omega
end Go.Proofs.YtbpckmbepgojfaaDoor.Nm
