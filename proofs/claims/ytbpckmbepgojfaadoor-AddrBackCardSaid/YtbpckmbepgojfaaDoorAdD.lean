/- References with a sheet and a book. -/
import Derived.Test.YtbpckmbepgojfaaDoorAdC
import Derived.Test.YtbpckmbepgojfaaDoorPx0
import Derived.Test.YtbpckmbepgojfaaDoorPx3
import Derived.Test.YtbpckmbepgojfaaDoorPx4
namespace Go.Proofs.YtbpckmbepgojfaaDoor.Ad
open Go.RowKit Go.Proofs.YtbpckmbepgojfaaDoor.P Go.Proofs.YtbpckmbepgojfaaDoor.Nm Go.Proofs.YtbpckmbepgojfaaDoorW.PrintWords Go.Proofs.YtbpckmbepgojfaaDoorW.PrintLast
set_option linter.unusedVariables false
set_option linter.unusedSimpArgs false

/-- a cell, in a book and on a sheet -/
def wr (b sh : ByteArray) (p : R7) : R7 := if p.2.2.2.2.2.2 = true then (b, sh, p.2.2.1, p.2.2.2.1, p.2.2.2.2.1, p.2.2.2.2.2.1, true) else bad
def pr2 (b t : ByteArray) : R7 :=
  if (cutd t 33).2.2 = true then (if gn (cutd t 33).1 = true then wr b (cutd t 33).1 (pc (cutd t 33).2.1) else bad) else wr b e0 (pc t)
/-- the reference that a text tells -/
def pr (s : ByteArray) : R7 :=
  if pre s 91 = true then (if (cutd (tl s) 93).2.2 = true then (if gn (cutd (tl s) 93).1 = true then (if 0 ≤ at_ (cutd (tl s) 93).2.1 33 then pr2 (cutd (tl s) 93).1 (cutd (tl s) 93).2.1 else bad) else bad) else bad) else pr2 e0 s

theorem cutd_sz (t : ByteArray) (c : UInt8) : (cutd t c).1.size ≤ t.size ∧ (cutd t c).2.1.size ≤ t.size := by
  unfold cutd
  split
  · simp only [ByteArray.size_extract]; omega
  · exact ⟨Nat.le_refl _, Nat.zero_le _⟩
theorem j0_is {t b : ByteArray} (ht : t.size ≤ 140737488351232) : Ev (fun k => addr_ParseRef.j0 k t b e0) (pr2 b t) := by
  have z := cutd_sz t 33
  refine E.succ ?_
  simp only [addr_ParseRef.j0]
  refine Ev.bind (Cut_is ht 33) ?_
  unfold pr2
  refine ite_same (fun _ => Ev.bind (GoodName_is (by omega)) (ite_same (fun _ => Ev.bind (ParseCell_is (by omega)) ?_) (fun _ => Ev.now _))) (fun _ => Ev.bind (ParseCell_is ht) ?_)
  · unfold wr
    exact ite_same (fun _ => Ev.now _) (fun _ => Ev.now _)
  · unfold wr
    exact ite_same (fun _ => Ev.now _) (fun _ => Ev.now _)
theorem ParseRef_is {s : ByteArray} (hs : s.size ≤ 140737488351232) : Ev (fun k => addr_ParseRef.f k s) (pr s) := by
  have t := tl_sz s
  have z := cutd_sz (tl s) 93
  unfold pr
  refine E.bindn (CutPrefix_is hs 91) ?_
  by_cases p : pre s 91 = true
  · rw [if_pos p, if_pos p]
    refine E.pos p ?_
    show Ev (fun n => (strings_Cut.f n (tl s) (⟨#[93]⟩ : ByteArray)).bind fun bt135 => if bt135.2.2 = true then (addr_GoodName.f n bt135.1).bind fun t138 => if t138 = true then (strings_Contains.f n bt135.2.1 (⟨#[33]⟩ : ByteArray)).bind fun t139 => if t139 = true then addr_ParseRef.j0 n bt135.2.1 bt135.1 e0 else some bad else some bad else some bad) _
    refine Ev.bind (Cut_is (by omega) 93) (ite_same (fun _ => Ev.bind (GoodName_is (by omega)) (ite_same (fun _ => Ev.bind (Contains_is _ 33) ?_) (fun _ => Ev.now _))) (fun _ => Ev.now _))
    refine E.ite (fun c => ?_) (fun c => ?_)
    · rw [if_pos (of_decide_eq_true c)]
      exact j0_is (by omega)
    · rw [if_neg (fun h => c (decide_eq_true h))]
      exact Ev.now _
  · rw [if_neg p, if_neg p]
    exact E.neg p (j0_is hs)

/-! ### the document's reference -/
theorem tl_l (s : ByteArray) : (tl s).data.toList = s.data.toList.drop 1 := by
  unfold tl
  rw [ByteArray.data_extract, Array.toList_extract, List.extract_eq_take_drop]
  exact List.take_of_length_le (by rw [List.length_drop, sz]; exact Nat.le_refl _)
end Go.Proofs.YtbpckmbepgojfaaDoor.Ad
