/- References told as texts. -/
import Derived.Test.YtbpckmbepgojfaaDoorAdB
import Derived.Test.YtbpckmbepgojfaaDoorPx0
import Derived.Test.YtbpckmbepgojfaaDoorPx10
import Derived.Test.YtbpckmbepgojfaaDoorPx5
import Derived.Test.YtbpckmbepgojfaaDoorPx6
import Derived.Test.YtbpckmbepgojfaaDoorPx7
import Derived.Test.YtbpckmbepgojfaaDoorPx8
import Derived.Test.YtbpckmbepgojfaaDoorPx9
namespace Go.Proofs.YtbpckmbepgojfaaDoor.Ad
open Go.RowKit Go.Proofs.YtbpckmbepgojfaaDoor.P Go.Proofs.YtbpckmbepgojfaaDoor.Nm Go.Proofs.YtbpckmbepgojfaaDoorW.PrintWords Go.Proofs.YtbpckmbepgojfaaDoorW.PrintLast
set_option linter.unusedVariables false
set_option linter.unusedSimpArgs false

/-- a column's letter, a row's digits -/
def lt (c : Int) : ByteArray := strOfNums [wrap64 (wrap64 (65 + c) - 1) % 256]
def dt (r : Int) : ByteArray := (octavoref05_Itoa.f 60 r).getD (⟨#[]⟩ : ByteArray)
theorem lt_sz (c : Int) : (lt c).size = 1 := by unfold lt; rw [son_size]; rfl
theorem lt_tab : ∀ c : Fin 26, Utf8.encode (wrap32 (wrap64 (wrap64 (65 + ((c.val : Int) + 1)) - 1))) = lt ((c.val : Int) + 1) := by decide +kernel
theorem dt_tab : ∀ r : Fin 64, num_Print.f 60 (((r.val : Int) + 1) * 10000) = some (dt ((r.val : Int) + 1)) ∧ octavoref05_Itoa.f 60 ((r.val : Int) + 1) = some (dt ((r.val : Int) + 1)) ∧ 1 ≤ (dt ((r.val : Int) + 1)).size ∧ (dt ((r.val : Int) + 1)).size ≤ 2 := by decide +kernel
theorem ins_bd {r c : Int} (h : ins r c = true) : 1 ≤ r ∧ r ≤ 64 ∧ 1 ≤ c ∧ c ≤ 26 := of_decide_eq_true h
theorem lt_is {r c : Int} (h : ins r c = true) : Utf8.encode (wrap32 (wrap64 (wrap64 (65 + c) - 1))) = lt c := by
  have b := ins_bd h
  have := lt_tab ⟨(c - 1).toNat, by omega⟩
  rw [show (((c - 1).toNat : Nat) : Int) + 1 = c by omega] at this
  exact this
theorem dt_is {r c : Int} (h : ins r c = true) : Ev (fun k => num_Print.f k (wrap64 (r * 10000))) (dt r) ∧ Ev (fun k => octavoref05_Itoa.f k r) (dt r) ∧ 1 ≤ (dt r).size ∧ (dt r).size ≤ 2 := by
  have b := ins_bd h
  have := dt_tab ⟨(r - 1).toNat, by omega⟩
  rw [show (((r - 1).toNat : Nat) : Int) + 1 = r by omega] at this
  refine ⟨?_, Ev.of (k := 60) (fun k => octavoref05_Itoa.mono r k) this.2.1, this.2.2⟩
  rw [E.w64 (by omega) (by omega)]
  exact Ev.of (k := 60) (fun k => num_Print.mono (r * 10000) k) this.1
theorem decimal_is {r c : Int} (h : ins r c = true) : Ev (fun k => addr_decimal.f k r) (dt r) := Ev.bind (dt_is h).1 (Ev.now _)
def ctx (r c : Int) : ByteArray := if ins r c = true then lt c ++ dt r else (⟨#[]⟩ : ByteArray)
theorem CellText_is (r c : Int) : Ev (fun k => addr_CellText.f k r c) (ctx r c) := by
  unfold ctx
  refine E.bindn (inside_is r c) (ite_same (fun h => Ev.bind (decimal_is h) ?_) (fun _ => Ev.now _))
  rw [lt_is h]
  have := lt_sz c
  have := dt_is h
  exact E.pos (by omega) (Ev.now _)
theorem rCellText_is (r c : Int) : Ev (fun k => octavoref08_CellText.f k r c) (ctx r c) := by
  unfold ctx
  refine E.bindn (rin_is r c) (ite_same (fun h => E.bindn (a := [wrap64 (wrap64 (65 + c) - 1) % 256]) rfl (Ev.bind (dt_is h).2.1 ?_)) (fun _ => Ev.now _))
  have := lt_sz c
  have := dt_is h
  unfold lt at *
  exact E.pos (by omega) (Ev.now _)

/-- is it a reference -/
def gd (b sh : ByteArray) (r c : Int) : Bool := ins r c && (if sh.size = 0 then decide (b.size = 0) else gn sh && (decide (b.size = 0) || gn b))
theorem a_Good_is {b sh : ByteArray} {r c : Int} {x y : Bool} (hb : b.size ≤ 140737488351232) (hs : sh.size ≤ 140737488351232) : Ev (fun k => addr_Good.f k b sh r c x y) (gd b sh r c) := by
  have f : ∀ q : Bool, q = true → Ev (fun k => addr_Good.j0 k q b sh r c x y) false := by
    intro q hq
    refine E.succ ?_
    simp only [addr_Good.j0]
    exact E.pos hq (Ev.now _)
  unfold gd
  refine E.bindn (inside_is r c) ?_
  cases i : ins r c with
  | false => exact E.neg (by decide) (f _ rfl)
  | true =>
    refine E.pos rfl ?_
    rw [Bool.true_and]
    by_cases s0 : sh.size = 0
    · rw [if_pos s0]
      refine E.pos ((nil_iff _).2 s0) ?_
      by_cases b0 : b.size = 0
      · have bl : b.toList = ([] : List UInt8) := (nil_iff _).2 b0
        rw [decide_eq_true b0, bl]
        refine E.succ ?_
        simp only [addr_Good.j0]
        exact E.neg (by decide) (E.pos ((nil_iff _).2 s0) (E.pos bl (Ev.now _)))
      · rw [decide_eq_false b0]
        exact f _ (by rw [bne_iff_ne]; exact fun h => b0 ((nil_iff _).1 h))
    · rw [if_neg s0]
      refine E.neg (fun h => s0 ((nil_iff _).1 h)) (E.succ ?_)
      simp only [addr_Good.j0]
      refine E.neg (by decide) (E.neg (fun h => s0 ((nil_iff _).1 h)) (Ev.bind (GoodName_is hs) ?_))
      cases gn sh with
      | false => exact E.neg (by decide) (Ev.now _)
      | true =>
        refine E.pos rfl (E.ite (fun h => E.now ?_) (fun h => Ev.bind (GoodName_is hb) (E.now ?_)))
        · rw [decide_eq_true ((nil_iff _).1 h)]; rfl
        · rw [decide_eq_false (fun q => h ((nil_iff _).2 q))]; rfl
theorem a_rGood_is {b sh : ByteArray} {r c : Int} {x y : Bool} (hb : b.size ≤ 140737488351232) (hs : sh.size ≤ 140737488351232) : Ev (fun k => octavoref08_Good.f k b sh r c x y) (gd b sh r c) := by
  unfold gd
  refine E.bindn (rin_is r c) ?_
  cases i : ins r c with
  | false => exact E.neg (by decide) (Ev.now _)
  | true =>
    refine E.pos rfl ?_
    rw [Bool.true_and]
    by_cases s0 : sh.size = 0
    · have sl : sh.toList = ([] : List UInt8) := (nil_iff _).2 s0
      rw [if_pos s0]
      refine E.pos sl (E.ite (fun h => E.now ?_) (fun h => Ev.bind (rGoodName_is hb) (E.ite (fun g => E.now ?_) (fun g => E.now ?_))))
      · rw [decide_eq_true ((nil_iff _).1 h)]
      · rw [decide_eq_false (fun q => h ((nil_iff _).2 q)), sl]; rfl
      · rw [decide_eq_false (fun q => h ((nil_iff _).2 q))]
    · have sn : ¬ sh.toList = ([] : List UInt8) := fun h => s0 ((nil_iff _).1 h)
      rw [if_neg s0]
      refine E.neg sn (Ev.bind (rGoodName_is hs) ?_)
      cases gn sh with
      | false => exact E.neg (by decide) (Ev.now _)
      | true =>
        refine E.pos rfl (E.ite (fun h => E.now ?_) (fun h => Ev.bind (rGoodName_is hb) (E.ite (fun g => E.now ?_) (fun g => E.now ?_))))
        · rw [decide_eq_true ((nil_iff _).1 h)]; rfl
        · rw [g, bne_iff_ne.2 sn]; simp
        · rw [decide_eq_false (fun q => h ((nil_iff _).2 q)), show gn b = false by simpa using g]; rfl

def dl (x : Bool) : ByteArray := if x = true then (⟨#[36]⟩ : ByteArray) else (⟨#[]⟩ : ByteArray)
/-- a reference's cell as a text -/
def clt (r c : Int) (x y : Bool) : ByteArray := ((dl y ++ lt c) ++ dl x) ++ dt r
theorem clt_sz {r c : Int} (h : ins r c = true) (x y : Bool) : (clt r c x y).size ≤ 5 := by
  have l := lt_sz c
  have d := dt_is h
  have k : ∀ x : Bool, (dl x).size ≤ 1 := by intro x; cases x <;> decide
  have k1 := k x
  have k2 := k y
  unfold clt
  simp only [ByteArray.size_append]
  omega
theorem app_nil (s : ByteArray) : s ++ (⟨#[]⟩ : ByteArray) = s := ByteArray.append_empty
theorem nil_app (s : ByteArray) : (⟨#[]⟩ : ByteArray) ++ s = s := ByteArray.empty_append
theorem one_sz2 (c : UInt8) : (⟨#[c]⟩ : ByteArray).size = 1 := rfl
theorem none_sz : (⟨#[]⟩ : ByteArray).size = 0 := rfl
theorem cell_is {b sh : ByteArray} {r c : Int} {x y : Bool} (h : ins r c = true) : Ev (fun k => addr_cell.f k b sh r c x y) (clt r c x y) := by
  have l := lt_sz c
  have d := dt_is h
  unfold addr_cell.f clt dl
  rw [lt_is h]
  cases x <;> cases y <;> simp only [if_true, Bool.false_eq_true, if_false]
  all_goals exact E.pos (by omega) (E.pos (by simp only [ByteArray.size_append, one_sz2, none_sz]; omega) (Ev.bind (decimal_is h) (E.pos (by simp only [ByteArray.size_append, one_sz2, none_sz]; omega) (Ev.now _))))
theorem rcell_is {b sh : ByteArray} {r c : Int} {x y : Bool} (h : ins r c = true) : Ev (fun k => octavoref08_cell.f k b sh r c x y) (clt r c x y) := by
  have l := lt_sz c
  have d := dt_is h
  have ct : ctx r c = lt c ++ dt r := if_pos h
  have e1 : (ctx r c).extract 0 1 = lt c := by
    rw [ct, ByteArray.extract_append, l]
    have a : (dt r).extract (0 - 1) (1 - 1) = (⟨#[]⟩ : ByteArray) := by
      apply ByteArray.ext
      rw [ByteArray.data_extract]
      simp
    have b : (lt c).extract 0 1 = lt c := by
      have := @ByteArray.extract_zero_size (lt c)
      rw [l] at this
      exact this
    rw [a, b, app_nil]
  have e2 : (ctx r c).extract 1 (ctx r c).size = dt r := by
    have z : (ctx r c).size = 1 + (dt r).size := by rw [ct, ByteArray.size_append, l]
    rw [z, ct, ByteArray.extract_append, l, Nat.sub_self, Nat.add_sub_cancel_left, ByteArray.extract_zero_size]
    have a : (lt c).extract 1 (1 + (dt r).size) = (⟨#[]⟩ : ByteArray) := by
      apply ByteArray.ext
      rw [ByteArray.data_extract]
      apply Array.toList_inj.1
      rw [Array.toList_extract, List.extract_eq_take_drop, List.drop_eq_nil_of_le (by rw [sz, l]; exact Nat.le_refl _)]
      simp
    rw [a, nil_app]
  have z : (ctx r c).size = 1 + (dt r).size := by rw [ct, ByteArray.size_append, l]
  refine Ev.bind (rCellText_is r c) (E.pos (by omega) (E.pos (by omega) ?_))
  rw [e1, e2]
  unfold clt dl
  cases x <;> cases y <;> simp only [if_true, Bool.false_eq_true, if_false, app_nil, nil_app]
  · exact E.pos (by omega) (Ev.now _)
  · exact E.pos (by omega) (E.pos (by simp only [ByteArray.size_append, one_sz2, none_sz]; omega) (Ev.now _))
  · exact E.pos (by omega) (E.pos (by simp only [ByteArray.size_append, one_sz2, none_sz]; omega) (Ev.now _))
  · exact E.pos (by omega) (E.pos (by simp only [ByteArray.size_append, one_sz2, none_sz]; omega) (E.pos (by simp only [ByteArray.size_append, one_sz2, none_sz]; omega) (Ev.now _)))
/-- a reference's text -/
def ptx (b sh u : ByteArray) : ByteArray :=
  if sh.size = 0 then (if b.size = 0 then u else (((⟨#[91]⟩ : ByteArray) ++ b) ++ (⟨#[93]⟩ : ByteArray)) ++ u)
  else (if b.size = 0 then (sh ++ (⟨#[33]⟩ : ByteArray)) ++ u else (((⟨#[91]⟩ : ByteArray) ++ b) ++ (⟨#[93]⟩ : ByteArray)) ++ ((sh ++ (⟨#[33]⟩ : ByteArray)) ++ u))
def pri (b sh : ByteArray) (r c : Int) (x y : Bool) : ByteArray := if gd b sh r c = true then ptx b sh (clt r c x y) else (⟨#[]⟩ : ByteArray)
theorem gd_ins {b sh : ByteArray} {r c : Int} (h : gd b sh r c = true) : ins r c = true := by
  unfold gd at h
  rw [Bool.and_eq_true] at h
  exact h.1
theorem pri_sz {b sh : ByteArray} {r c : Int} {x y : Bool} (hb : b.size ≤ 140737488351232) (hs : sh.size ≤ 140737488351232) : (pri b sh r c x y).size ≤ 281474976702480 := by
  unfold pri
  split
  · next h =>
    have := clt_sz (gd_ins h) x y
    unfold ptx
    repeat' split
    all_goals (try simp only [ByteArray.size_append, one_sz2])
    all_goals omega
  · exact Nat.zero_le _
theorem a_Print_is {b sh : ByteArray} {r c : Int} {x y : Bool} (hb : b.size ≤ 140737488351232) (hs : sh.size ≤ 140737488351232) : Ev (fun k => addr_Print.f k b sh r c x y) (pri b sh r c x y) := by
  unfold pri
  refine Ev.bind (a_Good_is hb hs) (ite_same (fun h => Ev.bind (cell_is (gd_ins h)) ?_) (fun _ => Ev.now _))
  have := clt_sz (gd_ins h) x y
  generalize clt r c x y = u at *
  unfold ptx
  refine E.ite (fun s0 => ?_) (fun s0 => ?_)
  · rw [if_pos ((nil_iff _).1 s0)]
    refine E.ite (fun b0 => ?_) (fun b0 => ?_)
    · rw [if_pos ((nil_iff _).1 b0)]; exact Ev.now _
    · rw [if_neg (fun q => b0 ((nil_iff _).2 q))]
      exact E.pos (by omega) (E.pos (by simp only [ByteArray.size_append, one_sz2]; omega) (E.pos (by simp only [ByteArray.size_append, one_sz2]; omega) (Ev.now _)))
  · rw [if_neg (fun q => s0 ((nil_iff _).2 q))]
    refine E.pos (by omega) (E.pos (by simp only [ByteArray.size_append, one_sz2]; omega) (E.ite (fun b0 => ?_) (fun b0 => ?_)))
    · rw [if_pos ((nil_iff _).1 b0)]; exact Ev.now _
    · rw [if_neg (fun q => b0 ((nil_iff _).2 q))]
      exact E.pos (by omega) (E.pos (by simp only [ByteArray.size_append, one_sz2]; omega) (E.pos (by simp only [ByteArray.size_append, one_sz2]; omega) (Ev.now _)))
theorem rPrint_is {b sh : ByteArray} {r c : Int} {x y : Bool} (hb : b.size ≤ 140737488351232) (hs : sh.size ≤ 140737488351232) : Ev (fun k => octavoref08_Print.f k b sh r c x y) (pri b sh r c x y) := by
  unfold pri
  refine Ev.bind (a_rGood_is hb hs) (ite_same (fun h => Ev.bind (rcell_is (gd_ins h)) ?_) (fun _ => Ev.now _))
  have := clt_sz (gd_ins h) x y
  generalize clt r c x y = u at *
  unfold ptx
  refine E.ite (fun s0 => ?_) (fun s0 => ?_)
  · rw [if_pos ((nil_iff _).1 s0)]
    refine E.ite (fun b0 => ?_) (fun b0 => ?_)
    · rw [if_pos ((nil_iff _).1 b0)]; exact Ev.now _
    · rw [if_neg (fun q => b0 ((nil_iff _).2 q))]
      exact E.pos (by omega) (E.pos (by simp only [ByteArray.size_append, one_sz2]; omega) (E.pos (by simp only [ByteArray.size_append, one_sz2]; omega) (Ev.now _)))
  · rw [if_neg (fun q => s0 ((nil_iff _).2 q))]
    refine E.pos (by omega) (E.pos (by simp only [ByteArray.size_append, one_sz2]; omega) (E.ite (fun b0 => ?_) (fun b0 => ?_)))
    · rw [if_pos ((nil_iff _).1 b0)]; exact Ev.now _
    · rw [if_neg (fun q => b0 ((nil_iff _).2 q))]
      exact E.pos (by omega) (E.pos (by simp only [ByteArray.size_append, one_sz2]; omega) (E.pos (by simp only [ByteArray.size_append, one_sz2]; omega) (Ev.now _)))
/-- two references' text -/
def pra (b sh : ByteArray) (r c : Int) (x y : Bool) (b' sh' : ByteArray) (r' c' : Int) (x' y' : Bool) : ByteArray :=
  if gd b sh r c = true ∧ gd b' sh' r' c' = true ∧ sh'.size = 0 then (pri b sh r c x y ++ (⟨#[58]⟩ : ByteArray)) ++ clt r' c' x' y' else (⟨#[]⟩ : ByteArray)
theorem PrintArea_is {b sh : ByteArray} {r c : Int} {x y : Bool} {b' sh' : ByteArray} {r' c' : Int} {x' y' : Bool} (hb : b.size ≤ 140737488351232) (hs : sh.size ≤ 140737488351232) (hb' : b'.size ≤ 140737488351232) (hs' : sh'.size ≤ 140737488351232) : Ev (fun k => addr_PrintArea.f k b sh r c x y b' sh' r' c' x' y') (pra b sh r c x y b' sh' r' c' x' y') := by
  have f : ∀ q : Bool, q = true → Ev (fun k => addr_PrintArea.j0 k q b sh r c x y b' sh' r' c' x' y') (⟨#[]⟩ : ByteArray) := by
    intro q hq
    refine E.succ ?_
    simp only [addr_PrintArea.j0]
    exact E.pos hq (Ev.now _)
  unfold pra
  refine Ev.bind (a_Good_is hb hs) (E.ite (fun g => Ev.bind (a_Good_is hb' hs') (E.ite (fun g' => ?_) (fun g' => ?_))) (fun g => ?_))
  · by_cases s0 : sh'.size = 0
    · have b0 : b'.size = 0 := by
        have := g'
        unfold gd at this
        rw [if_pos s0, Bool.and_eq_true] at this
        exact of_decide_eq_true this.2
      have z := pri_sz (r := r) (c := c) (x := x) (y := y) hb hs
      have z2 := clt_sz (gd_ins g') x' y'
      rw [if_pos ⟨g, g', s0⟩, (nil_iff b').2 b0, (nil_iff sh').2 s0]
      refine E.succ ?_
      simp only [addr_PrintArea.j0]
      exact E.neg (by decide) (Ev.bind (a_Print_is hb hs) (E.pos (by omega) (Ev.bind (cell_is (gd_ins g')) (E.pos (by simp only [ByteArray.size_append, one_sz2]; omega) (Ev.now _)))))
    · rw [if_neg (fun h => s0 h.2.2)]
      refine f _ ?_
      have : (sh'.toList == ([] : List UInt8)) = false := beq_eq_false_iff_ne.2 (fun h => s0 ((nil_iff _).1 h))
      rw [this]
      simp
  · rw [if_neg (fun h => g' h.2.1)]
    exact f _ rfl
  · rw [if_neg (fun h => g h.1)]
    exact f _ rfl
theorem rPrintArea_is {b sh : ByteArray} {r c : Int} {x y : Bool} {b' sh' : ByteArray} {r' c' : Int} {x' y' : Bool} (hb : b.size ≤ 140737488351232) (hs : sh.size ≤ 140737488351232) (hb' : b'.size ≤ 140737488351232) (hs' : sh'.size ≤ 140737488351232) : Ev (fun k => octavoref08_PrintArea.f k b sh r c x y b' sh' r' c' x' y') (pra b sh r c x y b' sh' r' c' x' y') := by
  have f : ∀ q : Bool, q = true → Ev (fun k => octavoref08_PrintArea.j0 k q b sh r c x y b' sh' r' c' x' y') (⟨#[]⟩ : ByteArray) := by
    intro q hq
    refine E.succ ?_
    simp only [octavoref08_PrintArea.j0]
    exact E.pos hq (Ev.now _)
  unfold pra
  refine Ev.bind (a_rGood_is hb hs) (E.ite (fun g => Ev.bind (a_rGood_is hb' hs') (E.ite (fun g' => ?_) (fun g' => ?_))) (fun g => ?_))
  · by_cases s0 : sh'.size = 0
    · have z := pri_sz (r := r) (c := c) (x := x) (y := y) hb hs
      have z2 := clt_sz (gd_ins g') x' y'
      rw [if_pos ⟨g, g', s0⟩, (nil_iff sh').2 s0]
      refine E.succ ?_
      simp only [octavoref08_PrintArea.j0]
      exact E.neg (by decide) (Ev.bind (rPrint_is hb hs) (E.pos (by omega) (Ev.bind (rcell_is (gd_ins g')) (E.pos (by simp only [ByteArray.size_append, one_sz2]; omega) (Ev.now _)))))
    · rw [if_neg (fun h => s0 h.2.2)]
      exact f _ (bne_iff_ne.2 (fun h => s0 ((nil_iff _).1 h)))
  · rw [if_neg (fun h => g' h.2.1)]
    exact f _ rfl
  · rw [if_neg (fun h => g h.1)]
    exact f _ rfl
end Go.Proofs.YtbpckmbepgojfaaDoor.Ad
