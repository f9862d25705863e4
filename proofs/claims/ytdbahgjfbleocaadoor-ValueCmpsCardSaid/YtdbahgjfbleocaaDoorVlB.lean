/- Which of two values is greater, in the program and in the document's answer: an order. -/
import Derived.Test.YtdbahgjfbleocaaDoorVlA
import Derived.Test.YtdbahgjfbleocaaDoorPx0
import Derived.Test.YtdbahgjfbleocaaDoorPx5
import Derived.Test.YtdbahgjfbleocaaDoorPx6
namespace Go.Proofs.YtdbahgjfbleocaaDoor.Vl
open Go.RowKit Go.Proofs.YtdbahgjfbleocaaDoor.P Go.Proofs.YtdbahgjfbleocaaDoor.Nm Go.Proofs.YtdbahgjfbleocaaDoorW.PrintWords Go.Proofs.YtdbahgjfbleocaaDoorW.PrintLast
set_option linter.unusedVariables false
set_option linter.unusedSimpArgs false

/-- a value's place among others -/
def pl (a0 a1 : Int) (a2 : ByteArray) (b0 : Int) : Int × Int × ByteArray :=
  if a0 = 0 then (if b0 = 2 then (2, 0, up (⟨#[]⟩ : ByteArray)) else if b0 = 3 then (3, 0, (⟨#[]⟩ : ByteArray)) else (1, 0, (⟨#[]⟩ : ByteArray))) else if a0 = 1 then (1, a1, (⟨#[]⟩ : ByteArray)) else if a0 = 3 then (3, a1, (⟨#[]⟩ : ByteArray)) else if a0 = 2 then (2, 0, up a2) else (4, a1, (⟨#[]⟩ : ByteArray))
theorem e0 : (⟨#[]⟩ : ByteArray).size ≤ 140737488351232 := by decide
theorem place_is {a0 a1 b0 b1 : Int} {a2 b2 : ByteArray} (ha : a2.size ≤ 140737488351232) : Ev (fun k => value_Cmp_1.f k a0 a1 a2 b0 b1 b2) (pl a0 a1 a2 b0) := by
  have j : ∀ (x a a' : Int) (s : ByteArray), s.size ≤ 140737488351232 → Ev (fun k => value_Cmp_1.j0 k x a a' s) (if x = 1 then (x, a', (⟨#[]⟩ : ByteArray)) else if x = 3 then (x, a', (⟨#[]⟩ : ByteArray)) else if x = 2 then (x, 0, up s) else (4, a', (⟨#[]⟩ : ByteArray))) := by
    intro x a a' s hs
    have j1 : ∀ (b : Bool) , Ev (fun k => value_Cmp_1.j1 k x x b a a' s) (if b = true then (x, a', (⟨#[]⟩ : ByteArray)) else if x = 2 then (x, 0, up s) else (4, a', (⟨#[]⟩ : ByteArray))) := by
      intro b
      refine E.succ ?_
      simp only [value_Cmp_1.j1]
      exact ite_same (fun _ => Ev.now _) (fun _ => ite_same (fun _ => E.bindn (Upper_is hs) (Ev.now _)) (fun _ => Ev.now _))
    refine E.succ ?_
    simp only [value_Cmp_1.j0]
    refine ite_same (fun h => ?_) (fun h => ?_)
    · have := j1 (x == 1)
      rw [if_pos (beq_iff_eq.2 h)] at this
      exact this
    · have := j1 (x == 3)
      simp only [beq_iff_eq] at this
      exact this
  unfold pl
  refine ite_same (fun h => ite_same (fun h2 => ?_) (fun h2 => ite_same (fun h3 => ?_) (fun h3 => ?_))) (fun h => ?_)
  · have := j b0 0 0 (⟨#[]⟩ : ByteArray) e0
    rw [h2] at this ⊢
    exact this
  · have := j b0 0 0 (⟨#[]⟩ : ByteArray) e0
    rw [h3] at this ⊢
    exact this
  · exact j 1 0 0 (⟨#[]⟩ : ByteArray) e0
  · have := j a0 a0 a1 a2 ha
    refine E.is this ?_
    repeat' split
    all_goals simp_all
/-- which of two places is greater -/
def cp (x y : Int × Int × ByteArray) : Int :=
  if x.1 = y.1 then (if x.2.1 = y.2.1 then (if x.2.2.toList = y.2.2.toList then 0 else if Op.bytesLess x.2.2.toList y.2.2.toList = true then -1 else 1) else if x.2.1 < y.2.1 then -1 else 1) else if x.1 < y.1 then -1 else 1
def cmp (a0 a1 : Int) (a2 : ByteArray) (b0 b1 : Int) (b2 : ByteArray) : Int := cp (pl a0 a1 a2 b0) (pl b0 b1 b2 a0)
theorem order_is (b : Bool) : value_order.f b = some (if b = true then -1 else 1) := by
  unfold value_order.f
  split <;> rfl
theorem Cmp_is {a0 a1 b0 b1 : Int} {a2 b2 : ByteArray} (ha : a2.size ≤ 140737488351232) (hb : b2.size ≤ 140737488351232) : Ev (fun k => value_Cmp.f k a0 a1 a2 b0 b1 b2) (cmp a0 a1 a2 b0 b1 b2) := by
  refine Ev.bind (place_is ha) (Ev.bind (place_is hb) ?_)
  unfold cmp cp
  generalize pl a0 a1 a2 b0 = x
  generalize pl b0 b1 b2 a0 = y
  refine ite_same (fun _ => ite_same (fun _ => ite_same (fun _ => Ev.now _) (fun _ => E.bindn (order_is _) (Ev.now _))) (fun _ => E.bindn (order_is _) (E.now (by simp)))) (fun _ => E.bindn (order_is _) (E.now (by simp)))
theorem bl_irr : ∀ a : List UInt8, Op.bytesLess a a = false
  | [] => rfl
  | a :: x => by
    have := bl_irr x
    simp [Op.bytesLess, this]
theorem rCmp_is {a0 a1 b0 b1 : Int} {a2 b2 : ByteArray} (ha : a2.size ≤ 140737488351232) (hb : b2.size ≤ 140737488351232) : octavoref06_Cmp.f a0 a1 a2 b0 b1 b2 = some (cmp a0 a1 a2 b0 b1 b2) := by
  have like : ∀ (x0 x1 : Int) (x2 : ByteArray) (y0 y1 : Int) (y2 : ByteArray), octavoref06_like.f x0 x1 x2 y0 y1 y2 = some (if x0 = 0 then (if y0 = 2 then (2, 0, (⟨#[]⟩ : ByteArray)) else if y0 = 3 then (3, 0, (⟨#[]⟩ : ByteArray)) else (1, 0, (⟨#[]⟩ : ByteArray))) else (x0, x1, x2)) := by
    intro x0 x1 x2 y0 y1 y2
    unfold octavoref06_like.f
    repeat' split
    all_goals rfl
  have rank : ∀ x : Int, octavoref06_rank.f x = some (if x = 1 then 1 else if x = 2 then 2 else if x = 3 then 3 else 4) := by
    intro x
    unfold octavoref06_rank.f
    repeat' split
    all_goals rfl
  have sgn : ∀ p q : Bool, octavoref06_sign.f p q = some (if p = true then -1 else if q = true then 1 else 0) := by
    intro p q
    unfold octavoref06_sign.f
    repeat' split
    all_goals rfl
  have plr : ∀ (x0 x1 : Int) (x2 : ByteArray) (y0 : Int), x2.size ≤ 140737488351232 → ∃ (l : Int × Int × ByteArray) (r : Int), (∀ y1 y2, octavoref06_like.f x0 x1 x2 y0 y1 y2 = some l) ∧ octavoref06_rank.f l.1 = some r ∧ (pl x0 x1 x2 y0).1 = r ∧ l.2.2.size ≤ 140737488351232 ∧ (r = 2 → (pl x0 x1 x2 y0).2.1 = 0 ∧ (pl x0 x1 x2 y0).2.2 = up l.2.2) ∧ (r ≠ 2 → (pl x0 x1 x2 y0).2.1 = l.2.1 ∧ (pl x0 x1 x2 y0).2.2 = (⟨#[]⟩ : ByteArray)) := by
    intro x0 x1 x2 y0 hx
    refine ⟨_, _, fun y1 y2 => like x0 x1 x2 y0 y1 y2, rank _, ?_⟩
    unfold pl
    by_cases c : x0 = 0
    · rw [if_pos c, if_pos c]
      by_cases d : y0 = 2
      · rw [if_pos d, if_pos d]; exact ⟨rfl, e0, fun _ => ⟨rfl, rfl⟩, fun h => absurd rfl h⟩
      rw [if_neg d, if_neg d]
      by_cases f : y0 = 3
      · simp only [if_pos f]; exact ⟨by simp, e0, by simp, by simp⟩
      simp only [if_neg f]; exact ⟨by simp, e0, by simp, by simp⟩
    · rw [if_neg c, if_neg c]
      dsimp only
      by_cases d : x0 = 1
      · rw [if_pos d, if_pos d]; exact ⟨rfl, hx, (fun h => absurd h (by decide)), fun _ => ⟨rfl, rfl⟩⟩
      rw [if_neg d, if_neg d]
      by_cases f : x0 = 2
      · rw [if_neg (show ¬ x0 = 3 by omega), if_pos f, if_pos f]; exact ⟨rfl, hx, fun _ => ⟨rfl, rfl⟩, fun h => absurd rfl h⟩
      rw [if_neg f, if_neg f]
      by_cases g : x0 = 3
      · rw [if_pos g, if_pos g]; exact ⟨rfl, hx, (fun h => absurd h (by decide)), fun _ => ⟨rfl, rfl⟩⟩
      rw [if_neg g, if_neg g]; exact ⟨rfl, hx, (fun h => absurd h (by decide)), fun _ => ⟨rfl, rfl⟩⟩
  obtain ⟨l, r, l1, l2, l3, l4, l5, l6⟩ := plr a0 a1 a2 b0 ha
  obtain ⟨m, t, m1, m2, m3, m4, m5, m6⟩ := plr b0 b1 b2 a0 hb
  unfold octavoref06_Cmp.f
  rw [l1]
  simp only [Option.bind_some]
  rw [m1]
  simp only [Option.bind_some]
  rw [l2, m2]
  simp only [Option.bind_some]
  unfold cmp cp
  rw [l3, m3]
  by_cases c : r = t
  · subst c
    rw [if_pos rfl, if_pos rfl]
    by_cases d : r = 2
    · rw [if_pos d, rUpper_is l4]
      simp only [Option.bind_some]
      rw [rUpper_is m4]
      simp only [Option.bind_some]
      rw [sgn, (l5 d).1, (m5 d).1, if_pos rfl, (l5 d).2, (m5 d).2]
      simp only [Option.bind_some]
      have g := X.bl_gtr (up l.2.2).toList (up m.2.2).toList
      have g2 := X.bl_gtr (up m.2.2).toList (up l.2.2).toList
      congr 1
      by_cases e : (up l.2.2).toList = (up m.2.2).toList
      · rw [if_pos e]
        rw [e, if_neg (by rw [bl_irr]; decide), if_neg (by rw [bl_irr]; decide)]
      · rw [if_neg e]
        by_cases f : Op.bytesLess (up l.2.2).toList (up m.2.2).toList = true
        · rw [if_pos f, if_pos f]
        · rw [if_neg f, if_neg f]
          have f2 : Op.bytesLess (up l.2.2).toList (up m.2.2).toList = false := by simpa using f
          rw [f2, beq_eq_false_iff_ne.2 e] at g
          have g3 : Op.bytesLess (up m.2.2).toList (up l.2.2).toList = true := g.symm
          rw [if_pos g3]
    · rw [if_neg d, sgn, (l6 d).1, (m6 d).1, (l6 d).2, (m6 d).2]
      simp only [Option.bind_some, decide_eq_true_eq]
      congr 1
      by_cases e : l.2.1 = m.2.1
      · rw [if_pos e, if_neg (by omega), if_neg (by omega)]; simp
      · rw [if_neg e]
        by_cases f : l.2.1 < m.2.1
        · rw [if_pos f, if_pos f]
        · rw [if_neg f, if_neg f, if_pos (by omega)]
  · rw [if_neg c, if_neg c, sgn]
    simp

end Go.Proofs.YtdbahgjfbleocaaDoor.Vl
