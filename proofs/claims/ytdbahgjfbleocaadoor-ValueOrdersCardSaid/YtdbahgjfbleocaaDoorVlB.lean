/- Which of two values is greater, in the program and in the document's answer: an order. -/
import Derived.Test.YtdbahgjfbleocaaDoorVlA
import Derived.Test.YtdbahgjfbleocaaDoorPx0
import Derived.Test.YtdbahgjfbleocaaDoorPx5
namespace Go.Proofs.YtdbahgjfbleocaaDoor.Vl
open Go.RowKit Go.Proofs.YtdbahgjfbleocaaDoor.P Go.Proofs.YtdbahgjfbleocaaDoor.Nm Go.Proofs.YtdbahgjfbleocaaDoorW.PrintWords Go.Proofs.YtdbahgjfbleocaaDoorW.PrintLast
set_option linter.unusedVariables false
set_option linter.unusedSimpArgs false

/-- a value's place among others -/
def pl (a0 a1 : Int) (a2 : ByteArray) (b0 : Int) : Int × Int × ByteArray :=
  if a0 = 0 then (if b0 = 2 then (2, 0, up (⟨#[]⟩ : ByteArray)) else if b0 = 3 then (3, 0, (⟨#[]⟩ : ByteArray)) else (1, 0, (⟨#[]⟩ : ByteArray))) else if a0 = 1 then (1, a1, (⟨#[]⟩ : ByteArray)) else if a0 = 3 then (3, a1, (⟨#[]⟩ : ByteArray)) else if a0 = 2 then (2, 0, up a2) else (4, a1, (⟨#[]⟩ : ByteArray))
theorem e0 : (⟨#[]⟩ : ByteArray).size ≤ 140737488351232 := by decide
theorem place_is {a0 a1 b0 b1 : Int} {a2 b2 : ByteArray} (ha : a2.size ≤ 140737488351232) : Ev (fun k => value_Cmp_1.f k a0 a1 a2 b0 b1 b2) (pl a0 a1 a2 b0) := by
  have j : ∀ (x a a' : Int) (s : ByteArray), s.size ≤ 140737488351232 → Ev (fun k => value_Cmp_1.j0 k x a a' s) (if x = 1 then (x, a', (⟨#[]⟩ : ByteArray)) else if x = 3 then (x, a', (⟨#[]⟩ : ByteArray)) else if x = 2 then (x, 0, up s) else (4, a', (⟨#[]⟩ : ByteArray))) := by
    intro x a a' s hs
    have j1 : ∀ (b : Bool) , Ev (fun k => value_Cmp_1.j1 k x x b a a' s) (if b = true then (x, a', (⟨#[]⟩ : ByteArray)) else if x = 2 then (x, 0, up s) else (4, a', (⟨#[]⟩ : ByteArray))) := by
      intro b
      refine E.succ ?_
      simp only [value_Cmp_1.j1]
      exact ite_same (fun _ => Ev.now _) (fun _ => ite_same (fun _ => E.bindn (Upper_is hs) (Ev.now _)) (fun _ => Ev.now _))
    refine E.succ ?_
    simp only [value_Cmp_1.j0]
    refine ite_same (fun h => ?_) (fun h => ?_)
    · have := j1 (x == 1)
      rw [if_pos (beq_iff_eq.2 h)] at this
      exact this
    · have := j1 (x == 3)
      simp only [beq_iff_eq] at this
      exact this
  unfold pl
  refine ite_same (fun h => ite_same (fun h2 => ?_) (fun h2 => ite_same (fun h3 => ?_) (fun h3 => ?_))) (fun h => ?_)
  · have := j b0 0 0 (⟨#[]⟩ : ByteArray) e0
    rw [h2] at this ⊢
    exact this
  · have := j b0 0 0 (⟨#[]⟩ : ByteArray) e0
    rw [h3] at this ⊢
    exact this
  · exact j 1 0 0 (⟨#[]⟩ : ByteArray) e0
  · have := j a0 a0 a1 a2 ha
    refine E.is this ?_
    repeat' split
    all_goals simp_all
/-- which of two places is greater -/
def cp (x y : Int × Int × ByteArray) : Int :=
  if x.1 = y.1 then (if x.2.1 = y.2.1 then (if x.2.2.toList = y.2.2.toList then 0 else if Op.bytesLess x.2.2.toList y.2.2.toList = true then -1 else 1) else if x.2.1 < y.2.1 then -1 else 1) else if x.1 < y.1 then -1 else 1
def cmp (a0 a1 : Int) (a2 : ByteArray) (b0 b1 : Int) (b2 : ByteArray) : Int := cp (pl a0 a1 a2 b0) (pl b0 b1 b2 a0)
theorem order_is (b : Bool) : value_order.f b = some (if b = true then -1 else 1) := by
  unfold value_order.f
  split <;> rfl
theorem Cmp_is {a0 a1 b0 b1 : Int} {a2 b2 : ByteArray} (ha : a2.size ≤ 140737488351232) (hb : b2.size ≤ 140737488351232) : Ev (fun k => value_Cmp.f k a0 a1 a2 b0 b1 b2) (cmp a0 a1 a2 b0 b1 b2) := by
  refine Ev.bind (place_is ha) (Ev.bind (place_is hb) ?_)
  unfold cmp cp
  generalize pl a0 a1 a2 b0 = x
  generalize pl b0 b1 b2 a0 = y
  refine ite_same (fun _ => ite_same (fun _ => ite_same (fun _ => Ev.now _) (fun _ => E.bindn (order_is _) (Ev.now _))) (fun _ => E.bindn (order_is _) (E.now (by simp)))) (fun _ => E.bindn (order_is _) (E.now (by simp)))
/-! ### an order -/
theorem bl_trans : ∀ a b c : List UInt8, Op.bytesLess a b = true → Op.bytesLess b c = true → Op.bytesLess a c = true
  | _, [], _, h, _ => by simp [Op.bytesLess] at h
  | _, _ :: _, [], _, h => by simp [Op.bytesLess] at h
  | [], _ :: _, _ :: _, _, _ => by simp [Op.bytesLess]
  | a :: x, b :: y, c :: z, h, k => by
    have ih := bl_trans x y z
    simp only [Op.bytesLess, Bool.or_eq_true, decide_eq_true_eq, Bool.and_eq_true, beq_iff_eq] at h k ⊢
    rcases h with h | ⟨rfl, h⟩
    · rcases k with k | ⟨rfl, k⟩
      · exact .inl (by rw [UInt8.lt_iff_toNat_lt] at h k ⊢; omega)
      · exact .inl h
    · rcases k with k | ⟨rfl, k⟩
      · exact .inl k
      · exact .inr ⟨rfl, ih h k⟩
theorem bl_asym (a b : List UInt8) (h : Op.bytesLess a b = true) : Op.bytesLess b a = false := by
  have := X.bl_gtr a b
  rw [h] at this
  simpa using this.symm
theorem bl_total (a b : List UInt8) (h : a ≠ b) (k : Op.bytesLess a b = false) : Op.bytesLess b a = true := by
  have := X.bl_gtr a b
  rw [k, beq_eq_false_iff_ne.2 h] at this
  simpa using this.symm
theorem cp_self (x : Int × Int × ByteArray) : cp x x = 0 := by simp [cp]
theorem cp_anti (x y : Int × Int × ByteArray) : cp x y = -cp y x := by
  unfold cp
  by_cases c : x.1 = y.1
  · rw [if_pos c, if_pos c.symm]
    by_cases d : x.2.1 = y.2.1
    · rw [if_pos d, if_pos d.symm]
      by_cases e : x.2.2.toList = y.2.2.toList
      · rw [if_pos e, if_pos e.symm]; rfl
      · rw [if_neg e, if_neg (Ne.symm e)]
        by_cases f : Op.bytesLess x.2.2.toList y.2.2.toList = true
        · rw [if_pos f, if_neg (by rw [bl_asym _ _ f]; decide)]
        · rw [if_neg f, if_pos (bl_total _ _ e (by simpa using f))]; rfl
    · rw [if_neg d, if_neg (Ne.symm d)]
      by_cases f : x.2.1 < y.2.1
      · rw [if_pos f, if_neg (by omega)]
      · rw [if_neg f, if_pos (by omega)]; rfl
  · rw [if_neg c, if_neg (Ne.symm c)]
    by_cases f : x.1 < y.1
    · rw [if_pos f, if_neg (by omega)]
    · rw [if_neg f, if_pos (by omega)]; rfl
theorem cp_bd (x y : Int × Int × ByteArray) : cp x y = -1 ∨ cp x y = 0 ∨ cp x y = 1 := by
  unfold cp
  repeat' split
  all_goals simp
theorem cp_le (x y : Int × Int × ByteArray) : cp x y ≤ 0 ↔ (x.1 < y.1 ∨ (x.1 = y.1 ∧ (x.2.1 < y.2.1 ∨ (x.2.1 = y.2.1 ∧ (x.2.2.toList = y.2.2.toList ∨ Op.bytesLess x.2.2.toList y.2.2.toList = true))))) := by
  unfold cp
  by_cases c : x.1 = y.1
  · rw [if_pos c]
    by_cases d : x.2.1 = y.2.1
    · rw [if_pos d]
      by_cases e : x.2.2.toList = y.2.2.toList
      · rw [if_pos e]; simp [c, d, e]
      · rw [if_neg e]
        by_cases f : Op.bytesLess x.2.2.toList y.2.2.toList = true
        · rw [if_pos f]; simp [c, d, f]
        · rw [if_neg f]; simp [c, d, e, f]
    · rw [if_neg d]
      by_cases f : x.2.1 < y.2.1
      · rw [if_pos f]; simp [c, f]
      · rw [if_neg f]; simp [c, d, f]
  · rw [if_neg c]
    by_cases f : x.1 < y.1
    · rw [if_pos f]; simp [f]
    · rw [if_neg f]; simp [c, f]
theorem cp_trans (x y z : Int × Int × ByteArray) (h : cp x y ≤ 0) (k : cp y z ≤ 0) : cp x z ≤ 0 := by
  rw [cp_le] at h k ⊢
  rcases h with h | ⟨h1, h⟩
  · rcases k with k | ⟨k1, k⟩
    · exact .inl (by omega)
    · exact .inl (by omega)
  · rcases k with k | ⟨k1, k⟩
    · exact .inl (by omega)
    · refine .inr ⟨by omega, ?_⟩
      rcases h with h | ⟨h2, h⟩
      · rcases k with k | ⟨k2, k⟩
        · exact .inl (by omega)
        · exact .inl (by omega)
      · rcases k with k | ⟨k2, k⟩
        · exact .inl (by omega)
        · refine .inr ⟨by omega, ?_⟩
          rcases h with h | h
          · rw [h]; exact k
          · rcases k with k | k
            · rw [← k]; exact .inr h
            · exact .inr (bl_trans _ _ _ h k)
theorem cmp_nb {a0 a1 b0 b1 : Int} {a2 b2 : ByteArray} (ha : a0 ≠ 0) (hb : b0 ≠ 0) : cmp a0 a1 a2 b0 b1 b2 = cp (pl a0 a1 a2 1) (pl b0 b1 b2 1) := by
  have e : ∀ (x0 x1 : Int) (x2 : ByteArray) (y : Int), x0 ≠ 0 → pl x0 x1 x2 y = pl x0 x1 x2 1 := by
    intro x0 x1 x2 y h
    unfold pl
    rw [if_neg h, if_neg h]
  unfold cmp
  rw [e a0 a1 a2 b0 ha, e b0 b1 b2 a0 hb]
end Go.Proofs.YtdbahgjfbleocaaDoor.Vl
