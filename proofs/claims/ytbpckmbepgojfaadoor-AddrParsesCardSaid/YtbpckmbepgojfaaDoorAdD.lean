/- References with a sheet and a book. -/
import Derived.Test.YtbpckmbepgojfaaDoorAdC
import Derived.Test.YtbpckmbepgojfaaDoorPx0
import Derived.Test.YtbpckmbepgojfaaDoorPx4
import Derived.Test.YtbpckmbepgojfaaDoorPx5
import Derived.Test.YtbpckmbepgojfaaDoorPx6
namespace Go.Proofs.YtbpckmbepgojfaaDoor.Ad
open Go.RowKit Go.Proofs.YtbpckmbepgojfaaDoor.P Go.Proofs.YtbpckmbepgojfaaDoor.Nm Go.Proofs.YtbpckmbepgojfaaDoorW.PrintWords Go.Proofs.YtbpckmbepgojfaaDoorW.PrintLast
set_option linter.unusedVariables false
set_option linter.unusedSimpArgs false

/-- a cell, in a book and on a sheet -/
def wr (b sh : ByteArray) (p : R7) : R7 := if p.2.2.2.2.2.2 = true then (b, sh, p.2.2.1, p.2.2.2.1, p.2.2.2.2.1, p.2.2.2.2.2.1, true) else bad
def pr2 (b t : ByteArray) : R7 :=
  if (cutd t 33).2.2 = true then (if gn (cutd t 33).1 = true then wr b (cutd t 33).1 (pc (cutd t 33).2.1) else bad) else wr b e0 (pc t)
/-- the reference that a text tells -/
def pr (s : ByteArray) : R7 :=
  if pre s 91 = true then (if (cutd (tl s) 93).2.2 = true then (if gn (cutd (tl s) 93).1 = true then (if 0 ≤ at_ (cutd (tl s) 93).2.1 33 then pr2 (cutd (tl s) 93).1 (cutd (tl s) 93).2.1 else bad) else bad) else bad) else pr2 e0 s

theorem cutd_sz (t : ByteArray) (c : UInt8) : (cutd t c).1.size ≤ t.size ∧ (cutd t c).2.1.size ≤ t.size := by
  unfold cutd
  split
  · simp only [ByteArray.size_extract]; omega
  · exact ⟨Nat.le_refl _, Nat.zero_le _⟩
theorem j0_is {t b : ByteArray} (ht : t.size ≤ 140737488351232) : Ev (fun k => addr_ParseRef.j0 k t b e0) (pr2 b t) := by
  have z := cutd_sz t 33
  refine E.succ ?_
  simp only [addr_ParseRef.j0]
  refine Ev.bind (Cut_is ht 33) ?_
  unfold pr2
  refine ite_same (fun _ => Ev.bind (GoodName_is (by omega)) (ite_same (fun _ => Ev.bind (ParseCell_is (by omega)) ?_) (fun _ => Ev.now _))) (fun _ => Ev.bind (ParseCell_is ht) ?_)
  · unfold wr
    exact ite_same (fun _ => Ev.now _) (fun _ => Ev.now _)
  · unfold wr
    exact ite_same (fun _ => Ev.now _) (fun _ => Ev.now _)
theorem ParseRef_is {s : ByteArray} (hs : s.size ≤ 140737488351232) : Ev (fun k => addr_ParseRef.f k s) (pr s) := by
  have t := tl_sz s
  have z := cutd_sz (tl s) 93
  unfold pr
  refine E.bindn (CutPrefix_is hs 91) ?_
  by_cases p : pre s 91 = true
  · rw [if_pos p, if_pos p]
    refine E.pos p ?_
    show Ev (fun n => (strings_Cut.f n (tl s) (⟨#[93]⟩ : ByteArray)).bind fun bt135 => if bt135.2.2 = true then (addr_GoodName.f n bt135.1).bind fun t138 => if t138 = true then (strings_Contains.f n bt135.2.1 (⟨#[33]⟩ : ByteArray)).bind fun t139 => if t139 = true then addr_ParseRef.j0 n bt135.2.1 bt135.1 e0 else some bad else some bad else some bad) _
    refine Ev.bind (Cut_is (by omega) 93) (ite_same (fun _ => Ev.bind (GoodName_is (by omega)) (ite_same (fun _ => Ev.bind (Contains_is _ 33) ?_) (fun _ => Ev.now _))) (fun _ => Ev.now _))
    refine E.ite (fun c => ?_) (fun c => ?_)
    · rw [if_pos (of_decide_eq_true c)]
      exact j0_is (by omega)
    · rw [if_neg (fun h => c (decide_eq_true h))]
      exact Ev.now _
  · rw [if_neg p, if_neg p]
    exact E.neg p (j0_is hs)

/-! ### the document's reference -/
theorem tl_l (s : ByteArray) : (tl s).data.toList = s.data.toList.drop 1 := by
  unfold tl
  rw [ByteArray.data_extract, Array.toList_extract, List.extract_eq_take_drop]
  exact List.take_of_length_le (by rw [List.length_drop, sz]; exact Nat.le_refl _)
theorem at_tl {s : ByteArray} {c : UInt8} (h : 0 < s.size) (n : ¬ bt s 0 = (c.toNat : Int)) : at_ s c = if at_ (tl s) c = -1 then -1 else at_ (tl s) c + 1 := by
  unfold at_
  rw [tl_l]
  have := X.drop_get s 0 h
  rw [List.drop_zero] at this
  rw [this, idx_cons, if_neg]
  · rw [List.drop_succ_cons, List.drop_zero]
  · intro q
    refine n ?_
    rw [show bt s 0 = bt s ((0 : Nat) : Int) from rfl, bt_nat s 0 h, q]
theorem rj2_is {t b : ByteArray} (ht : t.size ≤ 140737488351232) : Ev (fun k => octavoref08_ParseRef.j2 k t b e0) (pr2 b t) := by
  have z := cutd_sz t 33
  have a := at_bd t 33
  refine E.succ ?_
  simp only [octavoref08_ParseRef.j2]
  refine Ev.bind (rindex_is ht 33) ?_
  have w : ∀ (sh : ByteArray) (p : R7), Ev (fun _ : Nat => if p.2.2.2.2.2.2 = true then some (b, sh, p.2.2.1, p.2.2.2.1, p.2.2.2.2.1, p.2.2.2.2.2.1, true) else some bad) (wr b sh p) := by
    intro sh p
    unfold wr
    exact ite_same (fun _ => Ev.now _) (fun _ => Ev.now _)
  unfold pr2
  by_cases c : 0 ≤ at_ t 33
  · have e : cutd t 33 = (t.extract 0 (at_ t 33).toNat, t.extract (at_ t 33 + 1).toNat t.size, true) := if_pos c
    rw [e] at z ⊢
    rw [if_pos rfl]
    refine E.pos c (E.pos c (E.pos (by omega) (Ev.bind (rGoodName_is (by dsimp only at z; omega)) (ite_same (fun _ => ?_) (fun _ => Ev.now _)))))
    rw [E.w64 (x := at_ t 33 + 1) (by omega) (by omega)]
    exact E.pos (by omega) (E.pos (by omega) (Ev.bind (rParseCell_is (by dsimp only at z; omega)) (w _ _)))
  · have e : cutd t 33 = (t, (⟨#[]⟩ : ByteArray), false) := if_neg c
    rw [e, if_neg (show ¬ (false = true) by decide)]
    exact E.neg c (Ev.bind (rParseCell_is ht) (w _ _))
theorem rParseRef_is {s : ByteArray} (hs : s.size ≤ 140737488351232) : Ev (fun k => octavoref08_ParseRef.f k s) (pr s) := by
  have tz := tl_sz s
  have f : ∀ (b : Bool) (i : Int), b = true → Ev (fun k => octavoref08_ParseRef.j1 k s e0 i b) bad := by
    intro b i hb
    refine E.succ ?_
    simp only [octavoref08_ParseRef.j1]
    exact E.pos hb (Ev.now _)
  have j0 : ∀ b : Bool, b = pre s 91 → Ev (fun k => octavoref08_ParseRef.j0 k s e0 e0 b) (pr s) := by
    intro b hb
    refine E.succ ?_
    simp only [octavoref08_ParseRef.j0]
    unfold pr
    by_cases p : pre s 91 = true
    · rw [if_pos p]
      have q := of_decide_eq_true p
      have h93 : ¬ bt s 0 = ((93 : UInt8).toNat : Int) := by
        rw [q.2]
        decide
      have e := at_tl q.1 h93
      have a := at_bd (tl s) 93
      have bs := at_bd s 93
      refine E.pos (by rw [hb]; exact p) (Ev.bind (rindex_is hs 93) ?_)
      by_cases c : 0 ≤ at_ (tl s) 93
      · rw [if_neg (by omega)] at e
        have x1 : s.extract 1 (at_ s 93).toNat = (tl s).extract 0 (at_ (tl s) 93).toNat := by
          unfold tl
          rw [ByteArray.extract_extract]
          have e' : at_ s 93 = at_ (s.extract 1 s.size) 93 + 1 := e
          have c' : 0 ≤ at_ (s.extract 1 s.size) 93 := c
          have q1 := q.1
          have z1 : (s.extract 1 s.size).size = s.size - 1 := tz
          have a2 : at_ (s.extract 1 s.size) 93 = -1 ∨ (0 ≤ at_ (s.extract 1 s.size) 93 ∧ at_ (s.extract 1 s.size) 93 < (s.extract 1 s.size).size) := a
          congr 1
          omega
        have x2 : s.extract (at_ s 93 + 1).toNat s.size = (tl s).extract (at_ (tl s) 93 + 1).toNat (tl s).size := by
          rw [tz]
          unfold tl
          rw [ByteArray.extract_extract]
          have e' : at_ s 93 = at_ (s.extract 1 s.size) 93 + 1 := e
          have c' : 0 ≤ at_ (s.extract 1 s.size) 93 := c
          have q1 := q.1
          have z1 : (s.extract 1 s.size).size = s.size - 1 := tz
          have a1 : at_ (tl s) 93 = at_ (s.extract 1 s.size) 93 := rfl
          congr 1
          · omega
          · omega
        have ce : cutd (tl s) 93 = ((tl s).extract 0 (at_ (tl s) 93).toNat, (tl s).extract (at_ (tl s) 93 + 1).toNat (tl s).size, true) := if_pos c
        have z := cutd_sz (tl s) 93
        rw [ce] at z ⊢
        rw [if_pos rfl]
        dsimp only at z ⊢
        rw [← x1, ← x2] at z ⊢
        refine E.neg (by omega) (E.pos (by omega) (E.pos (by omega) (Ev.bind (rGoodName_is (by omega)) ?_)))
        cases g : gn (s.extract 1 (at_ s 93).toNat) with
        | false => exact f _ _ rfl
        | true =>
          rw [if_pos rfl]
          refine E.succ ?_
          simp only [octavoref08_ParseRef.j1]
          rw [E.w64 (x := at_ s 93 + 1) (by omega) (by omega)]
          refine E.neg (by decide) (E.pos (by omega) (E.pos (by omega) (E.pos (by omega) (E.pos (by omega) (Ev.bind (rindex_is (by omega) 33) ?_)))))
          refine E.ite (fun n => ?_) (fun n => ?_)
          · rw [if_neg (by omega)]
            exact Ev.now _
          · rw [if_pos (by omega)]
            exact rj2_is (by omega)
      · have ce : cutd (tl s) 93 = (tl s, (⟨#[]⟩ : ByteArray), false) := if_neg c
        rw [ce, if_neg (show ¬ (false = true) by decide)]
        rw [if_pos (by omega)] at e
        exact E.pos (by omega) (f _ _ rfl)
    · rw [if_neg p]
      exact E.neg (by rw [hb]; exact p) (rj2_is hs)
  refine E.ite (fun c => E.pos (by omega) (j0 _ ?_)) (fun c => j0 _ ?_)
  · rw [pre_dec (by omega)]; rfl
  · unfold pre
    rw [decide_eq_false (by omega)]
end Go.Proofs.YtbpckmbepgojfaaDoor.Ad
