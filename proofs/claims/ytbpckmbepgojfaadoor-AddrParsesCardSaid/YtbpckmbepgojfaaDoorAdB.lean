/- Cutting texts at a byte, and good names. -/
import Derived.Test.YtbpckmbepgojfaaDoorAdA
import Derived.Test.YtbpckmbepgojfaaDoorNumK
import Derived.Test.YtbpckmbepgojfaaDoorPx0
import Derived.Test.YtbpckmbepgojfaaDoorPx2
import Derived.Test.YtbpckmbepgojfaaDoorPx4
import Derived.Test.YtbpckmbepgojfaaDoorPx5
namespace Go.Proofs.YtbpckmbepgojfaaDoor.Ad
open Go.RowKit Go.Proofs.YtbpckmbepgojfaaDoor.P Go.Proofs.YtbpckmbepgojfaaDoor.Nm Go.Proofs.YtbpckmbepgojfaaDoorW.PrintWords Go.Proofs.YtbpckmbepgojfaaDoorW.PrintLast
set_option linter.unusedVariables false
set_option linter.unusedSimpArgs false

theorem bt_nat (s : ByteArray) (i : Nat) (h : i < s.size) : bt s (i : Int) = ((s[i]'h).toNat : Int) := by
  unfold bt
  rw [dif_pos (show ((i : Int)).toNat < s.size from h)]
  rfl
/-! ### the first place of a byte -/
def at_ (t : ByteArray) (c : UInt8) : Int := Lib.indexByte t.data.toList c
theorem at_bd (t : ByteArray) (c : UInt8) : at_ t c = -1 ∨ (0 ≤ at_ t c ∧ at_ t c < t.size) := by
  have := idx_bd t.data.toList c
  rw [sz] at this
  exact this
theorem one_sz (c : UInt8) : ((⟨#[c]⟩ : ByteArray).size : Int) = 1 := rfl
theorem one_l (c : UInt8) : (⟨#[c]⟩ : ByteArray).toList = [c] := by rw [ByteArray.toList_eq]
theorem one_bt (c : UInt8) : bt (⟨#[c]⟩ : ByteArray) 0 = (c.toNat : Int) := bt_nat (⟨#[c]⟩ : ByteArray) 0 Nat.one_pos
theorem Index_is (t : ByteArray) (c : UInt8) : Ev (fun k => stringslite_Index.f k t (⟨#[c]⟩ : ByteArray)) (at_ t c) := by
  refine E.neg (by rw [one_sz]; omega) ?_
  rw [one_sz, one_l]
  cases h : (([c] : List UInt8) == t.toList) with
  | true =>
    refine E.succ ?_
    simp only [stringslite_Index.j0]
    refine E.pos trivial (E.now ?_)
    have : t.data.toList = [c] := by rw [← ByteArray.toList_eq]; exact (beq_iff_eq.1 h).symm
    unfold at_
    rw [this, idx_cons, if_pos rfl]
  | false =>
    refine E.succ ?_
    simp only [stringslite_Index.j0, one_bt]
    refine E.neg (by simp) (E.pos trivial (E.pos (by rw [one_sz]; omega) (E.bindn (a := at_ t c) ?_ (Ev.now _))))
    unfold stringslite_IndexByte.f at_
    rw [Int.toNat_natCast]
    congr 2
    exact UInt8.ofNat_toNat
def cutd (t : ByteArray) (c : UInt8) : ByteArray × ByteArray × Bool := if 0 ≤ at_ t c then (t.extract 0 (at_ t c).toNat, t.extract (at_ t c + 1).toNat t.size, true) else (t, (⟨#[]⟩ : ByteArray), false)
theorem Cut_is {t : ByteArray} (ht : t.size ≤ 140737488351232) (c : UInt8) : Ev (fun k => strings_Cut.f k t (⟨#[c]⟩ : ByteArray)) (cutd t c) := by
  unfold strings_Cut.f stringslite_Cut.f
  refine Ev.bind (a := cutd t c) (Ev.bind (Index_is t c) ?_) (Ev.now _)
  rw [one_sz]
  have lt := at_bd t c
  unfold cutd
  refine ite_same (fun h => ?_) (fun h => Ev.now _)
  rw [E.w64 (x := at_ t c + 1) (by omega) (by omega)]
  exact E.pos h (E.pos (by omega) (E.pos (by omega) (E.pos (by omega) (Ev.now _))))
theorem Contains_is (t : ByteArray) (c : UInt8) : Ev (fun k => strings_Contains.f k t (⟨#[c]⟩ : ByteArray)) (decide (0 ≤ at_ t c)) :=
  Ev.bind (a := at_ t c) (Ev.bind (Index_is t c) (Ev.now _)) (Ev.now _)
/-- does a text begin with a byte -/
def pre (s : ByteArray) (c : UInt8) : Bool := decide (0 < s.size ∧ bt s 0 = (c.toNat : Int))
theorem CutPrefix_is {s : ByteArray} (hs : s.size ≤ 140737488351232) (c : UInt8) : strings_CutPrefix.f s (⟨#[c]⟩ : ByteArray) = some (if pre s c = true then s.extract 1 s.size else s, pre s c) := by
  have hp : stringslite_HasPrefix.f s (⟨#[c]⟩ : ByteArray) = some (pre s c) := by
    unfold stringslite_HasPrefix.f pre
    rw [one_sz, one_l]
    by_cases h : (s.size : Int) ≥ 1
    · rw [if_pos h, if_pos (by omega), if_pos h]
      have h0 : 0 < s.size := by omega
      have e : (s.extract 0 ((1 : Int)).toNat).toList = [s[0]'h0] := by
        rw [ByteArray.toList_eq, ByteArray.data_extract, Array.toList_extract, show ((1 : Int)).toNat = 1 from rfl]
        have := X.drop_get s 0 h0
        rw [List.drop_zero] at this
        rw [this]
        rfl
      have b0 : bt s 0 = ((s[0]'h0).toNat : Int) := bt_nat s 0 h0
      rw [e, b0]
      congr 1
      by_cases z : s[0]'h0 = c
      · rw [z]; simp [h0]
      · have : ¬ (((s[0]'h0).toNat : Int) = (c.toNat : Int)) := fun h => z (UInt8.toNat_inj.1 (by omega))
        rw [decide_eq_false (fun h => this h.2)]
        simp [z]
    · rw [if_neg h, decide_eq_false (by omega)]
  unfold strings_CutPrefix.f stringslite_CutPrefix.f
  rw [hp]
  simp only [Option.bind_some]
  by_cases h : pre s c = true
  · rw [if_pos h, if_pos h, one_sz, if_pos (by omega), if_pos (by have := of_decide_eq_true h; omega), h]
    rfl
  · rw [if_neg h, if_neg h, show pre s c = false by simpa using h]
    rfl
theorem rindex_l (t : ByteArray) (c : UInt8) (ht : t.size ≤ 140737488351232) : ∀ m i : Nat, i + m = t.size → Ev (fun k => octavoref08_index.l0 k t (c.toNat : Int) (i : Int)) (if Lib.indexByte (t.data.toList.drop i) c = -1 then -1 else (i : Int) + Lib.indexByte (t.data.toList.drop i) c) := by
  intro m
  induction m with
  | zero =>
    intro i h
    refine E.succ (E.neg (by omega) (E.now ?_))
    rw [List.drop_eq_nil_of_le (by rw [sz]; omega)]
    rfl
  | succ m ih =>
    intro i h
    have hi : i < t.size := by omega
    refine E.succ (E.pos (by omega) (E.pos (by omega) ?_))
    rw [X.drop_get t i hi, idx_cons, bt_nat t i hi]
    by_cases z : t[i]'hi = c
    · refine E.pos (by rw [z]) (E.now ?_)
      rw [if_pos z]
      simp
    · refine E.neg (fun h => z (UInt8.toNat_inj.1 (by omega))) ?_
      rw [if_neg z, show wrap64 ((i : Int) + 1) = ((i + 1 : Nat) : Int) by rw [E.w64 (by omega) (by omega)]; omega]
      refine E.is (ih (i + 1) (by omega)) ?_
      have b := idx_bd (t.data.toList.drop (i + 1)) c
      by_cases q : Lib.indexByte (t.data.toList.drop (i + 1)) c = -1
      · rw [if_pos q, if_pos q]; rfl
      · rw [if_neg q, if_neg q, if_neg (by omega)]; omega
theorem rindex_is {t : ByteArray} (ht : t.size ≤ 140737488351232) (c : UInt8) : Ev (fun k => octavoref08_index.f k t (c.toNat : Int)) (at_ t c) := by
  have := rindex_l t c ht t.size 0 (by omega)
  rw [List.drop_zero] at this
  refine E.is this ?_
  unfold at_
  split
  · next h => exact h.symm
  · simp

/-! ### good names -/
def up (s : ByteArray) : ByteArray := X.mapS X.gUpper s
theorem Upper_is {s : ByteArray} (h : s.size ≤ 140737488351232) : value_Upper.f s = some (up s) := if_pos (by omega)
theorem rUpper_is {s : ByteArray} (h : s.size ≤ 140737488351232) : octavoref06_Upper.f s = some (up s) := if_pos (by omega)
/-- is it a word for true or false -/
def tru (s : ByteArray) : Bool := decide ((up s).toList = ([84, 82, 85, 69] : List UInt8) ∨ (up s).toList = ([70, 65, 76, 83, 69] : List UInt8))
def aok (s : ByteArray) : Nat → Nat → Bool
  | 0, _ => true
  | m + 1, i => (lett (bt s i) || digt (bt s i) || decide (bt s i = 95)) && aok s m (i + 1)
def dgn (s : ByteArray) : Nat → Nat → Nat
  | 0, _ => 0
  | m + 1, i => (if digt (bt s i) = true then 1 else 0) + dgn s m (i + 1)
theorem dgn_le (s : ByteArray) : ∀ m i, dgn s m i ≤ m
  | 0, _ => Nat.le_refl _
  | m + 1, i => by
    have := dgn_le s m (i + 1)
    unfold dgn
    split <;> omega
def gn (s : ByteArray) : Bool :=
  decide (1 ≤ s.size ∧ s.size ≤ 16) && lett (bt s 0) && !(tru s) && aok s (s.size - 1) 1 && (decide (s.size = 1) || decide (dgn s (s.size - 1) 1 < s.size - 1))
theorem digt_lett {b : Int} (h : digt b = true) : lett b = false := by
  unfold digt at h
  unfold lett
  simp at h ⊢
  omega
theorem GoodName_l (s : ByteArray) (hs : s.size ≤ 16) : ∀ (m i c : Nat), i + m = s.size → c ≤ i → Ev (fun k => addr_GoodName.l0 k s c (s.size : Int) i) (aok s m i && !(tru s) && decide (c + dgn s m i = 0 ∨ c + dgn s m i + 1 < s.size)) := by
  intro m
  induction m with
  | zero =>
    intro i c h hc
    refine E.succ (E.neg (by omega) (E.bindn (Upper_is (by omega)) ?_))
    unfold tru aok dgn
    by_cases a : (up s).toList = ([84, 82, 85, 69] : List UInt8)
    · exact E.pos a (E.now (by simp [a]))
    by_cases b : (up s).toList = ([70, 65, 76, 83, 69] : List UInt8)
    · exact E.neg a (E.pos b (E.now (by simp [b])))
    refine E.neg a (E.neg b ?_)
    by_cases z : c = 0
    · exact E.pos (by omega) (E.now (by simp [a, b, z]))
    · refine E.neg (by omega) (E.now ?_)
      rw [E.w64 (by omega) (by omega)]
      simp only [a, b, z, or_self, decide_false, Bool.not_false, Bool.true_and, Nat.add_zero, false_or]
      congr 1
      rw [eq_iff_iff]
      omega
  | succ m ih =>
    intro i c h hc
    have w1 : wrap64 ((c : Int) + 1) = ((c + 1 : Nat) : Int) := by rw [E.w64 (by omega) (by omega)]; omega
    have w2 : wrap64 ((i : Int) + 1) = ((i + 1 : Nat) : Int) := by rw [E.w64 (by omega) (by omega)]; omega
    refine E.succ (E.pos (by omega) (E.pos (by omega) (E.pos (by omega) (E.bindn (digit_is _) ?_))))
    rw [w1, w2]
    unfold aok dgn
    by_cases d : digt (bt s i) = true
    · refine E.pos d (E.is (ih (i + 1) (c + 1) (by omega) (by omega)) ?_)
      rw [if_pos d, d]
      simp only [Bool.or_true, Bool.true_or, Bool.true_and]
      congr 2
      rw [eq_iff_iff]
      omega
    · refine E.neg d (E.bindn (letter_is _) ?_)
      rw [if_neg d, show digt (bt s i) = false by simpa using d, Nat.zero_add]
      by_cases l : lett (bt s i) = true
      · refine E.pos l (E.is (ih (i + 1) c (by omega) (by omega)) ?_)
        rw [l]; simp
      · refine E.neg l ?_
        rw [show lett (bt s i) = false by simpa using l]
        by_cases u : bt s i = 95
        · refine E.pos u (E.is (ih (i + 1) c (by omega) (by omega)) ?_)
          simp [u]
        · refine E.neg u (E.now ?_)
          simp [u]
theorem GoodName_is {s : ByteArray} (hs : s.size ≤ 140737488351232) : Ev (fun k => addr_GoodName.f k s) (gn s) := by
  have f : ∀ b : Bool, b = true → Ev (fun k => addr_GoodName.j0 k s b) false := by
    intro b hb
    refine E.succ ?_
    simp only [addr_GoodName.j0]
    exact E.pos hb (Ev.now _)
  unfold gn
  by_cases z : s.size = 0
  · rw [decide_eq_false (by omega)]
    exact E.pos ((nil_iff s).2 z) (f _ rfl)
  refine E.neg (fun h => z ((nil_iff s).1 h)) ?_
  by_cases g : s.size > 16
  · rw [decide_eq_false (by omega)]
    exact E.pos (by omega) (f _ rfl)
  refine E.neg (by omega) (E.pos (by omega) (E.bindn (letter_is _) ?_))
  rw [decide_eq_true (show 1 ≤ s.size ∧ s.size ≤ 16 by omega)]
  cases l : lett (bt s 0) with
  | false => exact f _ rfl
  | true =>
    refine E.succ ?_
    simp only [addr_GoodName.j0]
    refine E.neg (by decide) (E.is (GoodName_l s (by omega) s.size 0 0 (by omega) (by omega)) ?_)
    obtain ⟨m, hm⟩ : ∃ m, s.size = m + 1 := ⟨s.size - 1, by omega⟩
    have d0 : digt (bt s 0) = false := by
      cases d : digt (bt s 0) with
      | false => rfl
      | true => rw [digt_lett d] at l; cases l
    have b := dgn_le s m 1
    rw [hm, Nat.add_sub_cancel]
    rw [show aok s (m + 1) 0 = ((lett (bt s 0) || digt (bt s 0) || decide (bt s 0 = 95)) && aok s m 1) from rfl, show dgn s (m + 1) 0 = ((if digt (bt s 0) = true then 1 else 0) + dgn s m 1) from rfl, l, d0]
    simp only [Bool.true_or, Bool.true_and, Bool.false_eq_true, if_false, Nat.zero_add]
    cases aok s m 1 <;> cases tru s <;> simp only [Bool.false_and, Bool.true_and, Bool.not_true, Bool.not_false]
    rw [← Bool.decide_or]
    congr 1
    rw [eq_iff_iff]
    omega
theorem rGoodName_l (s : ByteArray) (hs : s.size ≤ 16) : ∀ (m i : Nat) (f : Bool), i + m = s.size → Ev (fun k => octavoref08_GoodName.l0 k s f i) (aok s m i && (f || decide (dgn s m i < m))) := by
  intro m
  induction m with
  | zero =>
    intro i f h
    refine E.succ (E.neg (by omega) (E.now ?_))
    unfold aok
    simp
  | succ m ih =>
    intro i f h
    have w2 : wrap64 ((i : Int) + 1) = ((i + 1 : Nat) : Int) := by rw [E.w64 (by omega) (by omega)]; omega
    have dl := dgn_le s m (i + 1)
    have nx : (lett (bt s i) || digt (bt s i) || decide (bt s i = 95)) = true → Ev (fun k => if f = true then octavoref08_GoodName.l0 k s true (wrap64 ((i : Int) + 1)) else (octavoref08_Digit.f (bt s i)).bind fun t => octavoref08_GoodName.l0 k s (!t) (wrap64 ((i : Int) + 1))) (aok s (m + 1) i && (f || decide (dgn s (m + 1) i < m + 1))) := by
      intro ok
      rw [w2]
      unfold aok dgn
      rw [ok, Bool.true_and]
      refine E.ite (fun hf => E.is (ih (i + 1) true (by omega)) ?_) (fun hf => E.bindn (rDigit_is _) (E.is (ih (i + 1) _ (by omega)) ?_))
      · rw [hf]; simp
      · rw [show f = false by simpa using hf]
        cases digt (bt s i) with
        | true =>
          simp only [Bool.not_true, Bool.false_or, if_true]
          congr 2
          rw [eq_iff_iff]
          omega
        | false =>
          simp only [Bool.not_false, Bool.true_or, Bool.false_or, Bool.false_eq_true, if_false, Nat.zero_add]
          rw [decide_eq_true (by omega)]
    refine E.succ (E.pos (by omega) (E.pos (by omega) (E.bindn (rLetter_is _) (E.ite (fun l => nx (by rw [l]; rfl)) (fun l => E.bindn (rDigit_is _) (E.ite (fun d => nx (by rw [d]; simp)) (fun d => E.ite (fun u => nx (by simp [u])) (fun u => E.now ?_))))))))
    unfold aok
    rw [show lett (bt s i) = false by simpa using l, show digt (bt s i) = false by simpa using d, decide_eq_false u]
    rfl
theorem Truth_is {s : ByteArray} (h : s.size ≤ 140737488351232) : ∃ t, octavoref06_Truth.f s = some t ∧ decide (t ≥ 0) = tru s := by
  unfold octavoref06_Truth.f tru
  rw [rUpper_is h]
  simp only [Option.bind_some]
  by_cases a : (up s).toList = ([84, 82, 85, 69] : List UInt8)
  · exact ⟨1, if_pos a, by simp [a]⟩
  · by_cases b : (up s).toList = ([70, 65, 76, 83, 69] : List UInt8)
    · exact ⟨0, by rw [if_neg a, if_pos b], by simp [b]⟩
    · exact ⟨-1, by rw [if_neg a, if_neg b], by simp [a, b]⟩
theorem rGoodName_is {s : ByteArray} (hs : s.size ≤ 140737488351232) : Ev (fun k => octavoref08_GoodName.f k s) (gn s) := by
  have f : ∀ b : Bool, b = true → Ev (fun k => octavoref08_GoodName.j0 k s b) false := by
    intro b hb
    refine E.succ ?_
    simp only [octavoref08_GoodName.j0]
    exact E.pos hb (Ev.now _)
  unfold gn
  by_cases z : s.size = 0
  · rw [decide_eq_false (by omega)]
    exact E.pos (by omega) (f _ rfl)
  refine E.neg (by omega) ?_
  by_cases g : s.size > 16
  · rw [decide_eq_false (by omega)]
    exact E.pos (by omega) (f _ rfl)
  refine E.neg (by omega) (E.pos (by omega) (E.bindn (rLetter_is _) ?_))
  rw [decide_eq_true (show 1 ≤ s.size ∧ s.size ≤ 16 by omega)]
  cases l : lett (bt s 0) with
  | false => exact E.neg (by decide) (f _ rfl)
  | true =>
    obtain ⟨t, ht, htr⟩ := Truth_is hs
    refine E.pos rfl (E.bindn ht ?_)
    rw [htr]
    cases tru s with
    | true => exact f _ rfl
    | false =>
      refine E.succ ?_
      simp only [octavoref08_GoodName.j0]
      refine E.neg (by decide) (E.is (rGoodName_l s (by omega) (s.size - 1) 1 _ (by omega)) ?_)
      simp only [Bool.true_and, Bool.not_false]
      congr 2
      rw [beq_dec]
      congr 1
      rw [eq_iff_iff]
      omega
end Go.Proofs.YtbpckmbepgojfaaDoor.Ad
