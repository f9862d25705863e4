/- Small functions on references, in the program and in the document's answer. -/
import Derived.Test.YtbpckmbepgojfaaDoorE
import Derived.Test.YtbpckmbepgojfaaDoorPx0
import Derived.Test.YtbpckmbepgojfaaDoorPx6
import Derived.Test.YtbpckmbepgojfaaDoorPx7
import Derived.Test.YtbpckmbepgojfaaDoorPx8
namespace Go.Proofs.YtbpckmbepgojfaaDoor.Ad
open Go.RowKit Go.Proofs.YtbpckmbepgojfaaDoor.P Go.Proofs.YtbpckmbepgojfaaDoorW.PrintWords Go.Proofs.YtbpckmbepgojfaaDoorW.PrintLast
set_option linter.unusedVariables false
set_option linter.unusedSimpArgs false

theorem lives_is : Ev (fun k => octavolaw08_lives.f k) true :=
  Ev.of (k := 400) (fun k => octavolaw08_lives.mono k) (by decide +kernel)
theorem fin : Ev (fun k => (octavolaw08_lives.f k).bind fun t => some t) true := Ev.bind lives_is (Ev.now _)
theorem ite_same {c : Prop} [Decidable c] {α : Type} {g f : Nat → Option α} {x y : α} (h : c → Ev g x) (k : ¬ c → Ev f y) : Ev (fun n => if c then g n else f n) (if c then x else y) :=
  E.ite (fun hc => by rw [if_pos hc]; exact h hc) (fun hc => by rw [if_neg hc]; exact k hc)

/-! ### places -/
theorem At_same (b s : ByteArray) (r c : Int) (x y : Bool) (b' s' : ByteArray) (r' c' : Int) : ∃ v, addr_At.f b s r c x y b' s' r' c' = some v ∧ octavoref08_At.f b s r c x y b' s' r' c' = some v := by
  unfold addr_At.f octavoref08_At.f
  repeat' split
  all_goals exact ⟨_, rfl, rfl⟩
theorem cb_bd : ∀ a b : List UInt8, (Lib.compareBytes a b = 0 ↔ a = b) ∧ (a ≠ b → Lib.compareBytes a b = if Op.bytesLess a b = true then -1 else 1) ∧ Lib.compareBytes a b = - Lib.compareBytes b a ∧ -1 ≤ Lib.compareBytes a b ∧ Lib.compareBytes a b ≤ 1
  | [], [] => by simp [Lib.compareBytes]
  | [], _ :: _ => by simp [Lib.compareBytes, Op.bytesLess]
  | _ :: _, [] => by simp [Lib.compareBytes, Op.bytesLess]
  | a :: x, b :: y => by
    obtain ⟨i1, i2, i3, i4, i5⟩ := cb_bd x y
    simp only [Lib.compareBytes, Op.bytesLess]
    by_cases e : a = b
    · subst e
      simp only [UInt8.lt_irrefl, if_false, decide_false, Bool.false_or, beq_self_eq_true, Bool.true_and, List.cons.injEq, true_and, ne_eq]
      exact ⟨i1, i2, i3, i4, i5⟩
    · have n : a.toNat ≠ b.toNat := fun h => e (UInt8.toNat_inj.mp h)
      have e1 : (a == b) = false := beq_eq_false_iff_ne.mpr e
      by_cases l : a < b
      · have l2 : ¬ b < a := by rw [UInt8.lt_iff_toNat_lt] at l ⊢; omega
        simp [l, l2, e]
      · have l2 : b < a := by rw [UInt8.lt_iff_toNat_lt] at l ⊢; omega
        simp [l, l2, e, e1]
def sgn (a b : Int) : Int := if a < b then -1 else if a > b then 1 else 0
theorem sign_is (a b : Int) : addr_sign.f a b = some (sgn a b) := by
  unfold addr_sign.f sgn
  repeat' split
  all_goals rfl
def fst (w x y z : Int) : Int := if w = 0 then (if x = 0 then (if y = 0 then z else y) else x) else w
/-- which of two places comes first -/
def cmp (a0 a1 : ByteArray) (a2 a3 : Int) (b0 b1 : ByteArray) (b2 b3 : Int) : Int :=
  fst (Lib.compareBytes a0.toList b0.toList) (Lib.compareBytes a1.toList b1.toList) (sgn a2 b2) (sgn a3 b3)
theorem Cmp_l (w x y z : Int) : Ev (fun k => addr_Cmp.l0 k w x y z 0) (fst w x y z) := by
  refine E.succ (E.pos (by omega) (E.pos (by omega) ?_))
  unfold fst
  rw [show rd ([w, x, y, z] : List Int) 0 = w from rfl, show wrap64 (0 + 1) = 1 by decide +kernel]
  refine ite_same (fun _ => ?_) (fun _ => Ev.now _)
  refine E.succ (E.pos (by omega) (E.pos (by omega) ?_))
  rw [show rd ([w, x, y, z] : List Int) 1 = x from rfl, show wrap64 (1 + 1) = 2 by decide +kernel]
  refine ite_same (fun _ => ?_) (fun _ => Ev.now _)
  refine E.succ (E.pos (by omega) (E.pos (by omega) ?_))
  rw [show rd ([w, x, y, z] : List Int) 2 = y from rfl, show wrap64 (2 + 1) = 3 by decide +kernel]
  refine ite_same (fun _ => ?_) (fun _ => Ev.now _)
  refine E.succ (E.pos (by omega) (E.pos (by omega) ?_))
  rw [show rd ([w, x, y, z] : List Int) 3 = z from rfl, show wrap64 (3 + 1) = 4 by decide +kernel]
  refine E.ite (fun h => ?_) (fun _ => Ev.now _)
  subst h
  exact E.succ (E.neg (by omega) (Ev.now _))
theorem Cmp_is (a0 a1 : ByteArray) (a2 a3 : Int) (b0 b1 : ByteArray) (b2 b3 : Int) : Ev (fun k => addr_Cmp.f k a0 a1 a2 a3 b0 b1 b2 b3) (cmp a0 a1 a2 a3 b0 b1 b2 b3) := by
  have c : ∀ x y : ByteArray, strings_Compare.f x y = some (Lib.compareBytes x.toList y.toList) := by
    intro x y
    rw [ByteArray.toList_eq, ByteArray.toList_eq]
    rfl
  exact E.bindn (c _ _) (E.bindn (c _ _) (E.bindn (sign_is _ _) (E.bindn (sign_is _ _) (Cmp_l _ _ _ _))))
theorem less_is (b : Bool) : octavoref08_less.f b = some (if b = true then -1 else 1) := by
  unfold octavoref08_less.f
  split <;> rfl
theorem rCmp_is (a0 a1 : ByteArray) (a2 a3 : Int) (b0 b1 : ByteArray) (b2 b3 : Int) : octavoref08_Cmp.f a0 a1 a2 a3 b0 b1 b2 b3 = some (cmp a0 a1 a2 a3 b0 b1 b2 b3) := by
  unfold octavoref08_Cmp.f cmp fst
  have x := cb_bd a0.toList b0.toList
  have y := cb_bd a1.toList b1.toList
  by_cases c0 : a0.toList = b0.toList
  · rw [if_pos c0, if_pos (x.1.2 c0)]
    by_cases c1 : a1.toList = b1.toList
    · rw [if_pos c1, if_pos (y.1.2 c1)]
      unfold sgn
      by_cases c2 : a2 = b2
      · rw [if_pos c2]
        by_cases c3 : a3 = b3
        · rw [if_pos c3]
          subst c2 c3
          simp
        · rw [if_neg c3, less_is]
          subst c2
          simp only [Option.bind_some, decide_eq_true_eq]
          congr 1
          repeat' split
          all_goals omega
      · rw [if_neg c2, less_is]
        simp only [Option.bind_some, decide_eq_true_eq]
        congr 1
        repeat' split
        all_goals omega
    · rw [if_neg c1, less_is, if_neg (fun h => c1 (y.1.1 h)), y.2.1 c1]
      rfl
  · rw [if_neg c0, less_is, if_neg (fun h => c0 (x.1.1 h)), x.2.1 c0]
    rfl
theorem cmp_self (a0 a1 : ByteArray) (a2 a3 : Int) : cmp a0 a1 a2 a3 a0 a1 a2 a3 = 0 := by
  unfold cmp fst
  rw [if_pos ((cb_bd _ _).1.2 rfl), if_pos ((cb_bd _ _).1.2 rfl)]
  unfold sgn
  simp
theorem cmp_anti (a0 a1 : ByteArray) (a2 a3 : Int) (b0 b1 : ByteArray) (b2 b3 : Int) : cmp a0 a1 a2 a3 b0 b1 b2 b3 = wrap64 (-cmp b0 b1 b2 b3 a0 a1 a2 a3) := by
  have s : ∀ a b : Int, sgn a b = - sgn b a ∧ -1 ≤ sgn a b ∧ sgn a b ≤ 1 := by
    intro a b
    unfold sgn
    repeat' split
    all_goals omega
  unfold cmp fst
  have x := cb_bd a0.toList b0.toList
  have y := cb_bd a1.toList b1.toList
  have u := s a2 b2
  have v := s a3 b3
  generalize Lib.compareBytes a0.toList b0.toList = x1 at *
  generalize Lib.compareBytes b0.toList a0.toList = x2 at *
  generalize Lib.compareBytes a1.toList b1.toList = y1 at *
  generalize Lib.compareBytes b1.toList a1.toList = y2 at *
  generalize sgn a2 b2 = u1 at *
  generalize sgn b2 a2 = u2 at *
  generalize sgn a3 b3 = v1 at *
  generalize sgn b3 a3 = v2 at *
  have x3 := x.2.2
  have y3 := y.2.2
  clear x y
  rw [E.w64 (by repeat' split
                all_goals omega) (by repeat' split
                                     all_goals omega)]
  repeat' split
  all_goals omega
end Go.Proofs.YtbpckmbepgojfaaDoor.Ad
