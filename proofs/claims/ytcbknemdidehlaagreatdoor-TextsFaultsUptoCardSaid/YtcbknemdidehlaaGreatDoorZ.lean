/- Small words of this session: rows of bytes that a conversion made. -/
import Derived.Test.YtcbknemdidehlaaGreatDoorX
import Derived.Lib.ConvBytes
import Derived.Laws.BytesArg
namespace Go.Proofs.YtcbknemdidehlaaGreatDoor.X
open Go.RowKit Go.Proofs.YtcbknemdidehlaaGreatDoorW.PrintWords
set_option linter.unusedVariables false
set_option linter.unusedSimpArgs false
def BL (w : World) (b e : Nat) (L : List Int) : Prop := ∃ (ex : Array Value) (fr : Nat × Nat), w.heap[b]? = some (.cells ((L.map (Value.int .u8)).toArray ++ ex) e fr) ∧ L.length ≤ fr.1
section
variable {w : World} {b e : Nat} {L : List Int}
theorem BL.cell (h : BL w b e L) {i : Nat} (hi : i < L.length) : w.cell? ⟨b, i, none⟩ = some (.int .u8 (L[i]'hi)) := by
 obtain ⟨ex, fr, h, _⟩ := h
 rw [cell_of_row w b i _ e fr h, Array.getElem?_append_left (by simpa using hi)]
 simp [hi]
theorem BL.cellD (h : BL w b e L) {i : Nat} (hi : i < L.length) : w.cell? ⟨b, i, none⟩ = some (.int .u8 (L.getD i 0)) := by
 rw [h.cell hi, List.getD_eq_getElem?_getD, List.getElem?_eq_getElem hi]
 rfl
theorem BL.frozen (h : BL w b e L) {i : Nat} (hi : i < L.length) : w.frozen? ⟨b, i, none⟩ = false := by
 obtain ⟨ex, fr, h, hl⟩ := h
 have : ¬ fr.1 ≤ i := by omega
 simp [World.frozen?, h, this]
theorem BL.set_ (h : BL w b e L) {i : Nat} (hi : i < L.length) (v : Int) : BL (w.setCell ⟨b, i, none⟩ (.int .u8 v)) b e (L.set i v) := by
 obtain ⟨ex, fr, h, hl⟩ := h
 refine ⟨ex, fr, ?_, by simpa using hl⟩
 have e1 : ((L.set i v).map (Value.int .u8)).toArray ++ ex = ((L.map (Value.int .u8)).toArray ++ ex).setIfInBounds i (.int .u8 v) := by
  apply Array.ext'
  simp only [Array.toList_setIfInBounds, Array.toList_append, List.map_set]
  rw [List.set_append_left _ _ (by simpa using hi)]
 rw [e1]
 simp [World.setCell, Array.getElem?_modify, h]
theorem bytesCells_size (w : World) (e : Nat) (s : ByteArray) : s.size ≤ (Lib.bytesCells w e s).size := by
 unfold Lib.bytesCells
 rw [Array.size_append, Array.size_map]
 exact Nat.le_add_right _ _
theorem BL.new (w : World) (e : Nat) (s : ByteArray) : BL (Lib.bytesWorld w e s) w.heap.size e (bytesOf s) := by
 refine ⟨Array.replicate (grownCap w s.size 0 e - s.size) (.int .u8 0), ((Lib.bytesCells w e s).size, (Lib.bytesCells w e s).size + 1), ?_, ?_⟩
 ·rw [Lib.bytesWorld_at_new]
  have e1 : Lib.bytesCells w e s = ((bytesOf s).map (Value.int .u8)).toArray ++ Array.replicate (grownCap w s.size 0 e - s.size) (.int .u8 0) := by
   unfold Lib.bytesCells
   congr 1
   apply Array.ext'
   simp [bytesOf]
  rw [← e1]
 ·rw [bytesOf_length]
  exact bytesCells_size w e s
theorem BL.drewN (h : BL w b e L) (n : Nat) : BL (w.drewN n) b e L := h
theorem BL.below {w' : World} {B : Nat} (h : BL w b e L) (hb : Below B w w') (hg : b < B) : BL w' b e L := by
 obtain ⟨ex, fr, h, hl⟩ := h
 exact ⟨ex, fr, (hb.block b hg).trans h, hl⟩
theorem BL.lt (h : BL w b e L) : b < w.heap.size := by
 obtain ⟨ex, fr, h, _⟩ := h
 rcases Nat.lt_or_ge b w.heap.size with hlt | hge
 ·exact hlt
 ·rw [Array.getElem?_eq_none hge] at h; cases h
theorem BL.str {P : Program} (h : BL w b e L) (src e' dst : TypeId) (hs : P.underlying src = some (.slice e')) (he : P.underlying e' = some (.int .u8)) (hd : P.underlying dst = some .string) (cap : Nat) :
  (convert src dst (.slice (some ⟨b, 0, none⟩) L.length cap)).run P w = .ok (.string (strOfNums L)) w :=
 run_convert_bytes_arg (P := P) w src e' hs he b 0 L.length cap L rfl (fun i hi => by rw [Nat.zero_add]; exact h.cellD hi) dst hd
end
theorem below_bytes (w : World) (e : Nat) (s : ByteArray) : Below w.heap.size w (Lib.bytesWorld w e s) :=
 ⟨rfl, rfl, rfl, by rw [Lib.bytesWorld_size]; omega, fun j hj => Lib.bytesWorld_at_old w e s j hj⟩
theorem bne_nil (l : List UInt8) : (l != []) = !l.isEmpty := by cases l <;> rfl
def mapS (g : Int → Int) (s : ByteArray) : ByteArray := strOfNums ((bytesOf s).map g)
theorem map_step (g : Int → Int) (A : List Int) (i : Nat) (h : i < A.length) : ((A.take i).map g ++ A.drop i).set i (g (A[i]'h)) = (A.take (i + 1)).map g ++ A.drop (i + 1) := by
 have hl : ((A.take i).map g).length = i := by simp; omega
 rw [List.set_append_right _ _ (by omega), hl, Nat.sub_self, List.drop_eq_getElem_cons h, List.set_cons_zero, List.take_succ_eq_append_getElem h, List.map_append, List.append_assoc]
 rfl
theorem map_at (g : Int → Int) (A : List Int) (i : Nat) (h : i < A.length) : ((A.take i).map g ++ A.drop i).length = A.length ∧ ∀ hj, ((A.take i).map g ++ A.drop i)[i]'hj = A[i]'h := by
 have hl : ((A.take i).map g).length = i := by simp; omega
 refine ⟨by simp; omega, fun h' => ?_⟩
 rw [List.getElem_append_right (by omega)]
 simp only [hl, Nat.sub_self, List.getElem_drop, Nat.add_zero]
def gUpper (c : Int) : Int := if 97 ≤ c ∧ c ≤ 122 then c - 32 else c
def gLower (c : Int) : Int := if 65 ≤ c ∧ c ≤ 90 then c + 32 else c
theorem bl_gtr : ∀ a b : List UInt8, (!(Op.bytesLess a b || a == b)) = Op.bytesLess b a
 | [], [] => by simp [Op.bytesLess]
 | [], b :: y => by simp [Op.bytesLess]
 | a :: x, [] => by simp [Op.bytesLess]
 | a :: x, b :: y => by
  have ih := bl_gtr x y
  simp only [Op.bytesLess]
  by_cases e : a = b
  ·subst e
   simp only [UInt8.lt_irrefl, decide_false, Bool.false_or, beq_self_eq_true, Bool.true_and, List.cons_beq_cons]
   exact ih
  ·have e1 : (a == b) = false := beq_eq_false_iff_ne.mpr e
   have e2 : (b == a) = false := beq_eq_false_iff_ne.mpr (Ne.symm e)
   have e3 : ((a :: x) == (b :: y)) = false := by simp [e]
   rw [e1, e2, e3]
   have : a.toNat ≠ b.toNat := fun h => e (UInt8.toNat_inj.mp h)
   by_cases l : a < b
   ·have l2 : ¬ b < a := by rw [UInt8.lt_iff_toNat_lt] at l ⊢; omega
    simp [l, l2]
   ·have l2 : b < a := by rw [UInt8.lt_iff_toNat_lt] at l ⊢; omega
    simp [l, l2]
theorem binOp_str_gtr (t : TypeId) (a b : ByteArray) : binOp .gtr t (.string a) (.string b) = pure (.bool (Op.bytesLess b.toList a.toList)) := by
 rw [← bl_gtr]
 simp [binOp, Op.stringOp]
theorem binOp_str_leq (t : TypeId) (a b : ByteArray) : binOp .leq t (.string a) (.string b) = pure (.bool (!(Op.bytesLess b.toList a.toList))) := by
 rw [← bl_gtr, Bool.not_not]
 simp [binOp, Op.stringOp]
def errL : List ByteArray := [⟨#[]⟩, ⟨#[35, 68, 73, 86, 47, 48, 33]⟩, ⟨#[35, 86, 65, 76, 85, 69, 33]⟩, ⟨#[35, 82, 69, 70, 33]⟩, ⟨#[35, 78, 65, 77, 69, 63]⟩, ⟨#[35, 78, 85, 77, 33]⟩, ⟨#[35, 78, 47, 65]⟩, ⟨#[35, 67, 89, 67, 76, 69, 33]⟩, ⟨#[35, 76, 73, 78, 75, 33]⟩]
end Go.Proofs.YtcbknemdidehlaaGreatDoor.X
