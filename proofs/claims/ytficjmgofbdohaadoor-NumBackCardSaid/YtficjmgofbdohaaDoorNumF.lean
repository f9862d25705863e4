/- What sums, rests, whole quotients and powers come to, in the program and in the document's answer. -/
import Derived.Test.YtficjmgofbdohaaDoorNumC
import Derived.Test.YtficjmgofbdohaaDoorNumE
import Derived.Test.YtficjmgofbdohaaDoorPx5
namespace Go.Proofs.YtficjmgofbdohaaDoor.Nm
open Go.RowKit Go.Proofs.YtficjmgofbdohaaDoor.P Go.Proofs.YtficjmgofbdohaaDoorW.PrintWords Go.Proofs.YtficjmgofbdohaaDoorW.PrintLast
set_option linter.unusedVariables false
set_option linter.unusedSimpArgs false

theorem tdiv_bd {a b : Int} (hb : b ≠ 0) (g : good a) : -100000000000 ≤ Int.tdiv a b ∧ Int.tdiv a b ≤ 100000000000 := by
  obtain ⟨q, r, hq, hr, e, s1, s2, p, n⟩ := tq (a := a) hb
  rw [hq]; exact abs_q hb e s1 s2 p n g

def quo (a b : Int) : Int × Bool := if good a ∧ good b ∧ b ≠ 0 then (if ab (Int.tdiv a b) > 10000000 then (0, false) else (Int.tdiv a b * 10000, true)) else (0, false)
theorem out_yes' {n : Int} (g : good n) : out n = (n, true) := if_pos g
def mod (a b : Int) : Int × Bool := if good a ∧ good b ∧ b ≠ 0 then (a - b * flr a b, true) else (0, false)
theorem mod_bd {a b : Int} (hb : b ≠ 0) (g : good b) : good (a - b * flr a b) ∧ (0 < b → 0 ≤ a - b * flr a b ∧ a - b * flr a b < b) ∧ (b < 0 → a - b * flr a b ≤ 0 ∧ b < a - b * flr a b) := by
  obtain ⟨r, e, p, n⟩ := flr_bd (a := a) hb
  have e2 : a - b * flr a b = r := by omega
  rw [e2]
  unfold good at g ⊢
  refine ⟨?_, p, n⟩
  by_cases h : 0 < b
  · have := p h; omega
  · have := n (by omega); omega
theorem Mod_is (a b : Int) : Ev (fun k => num_Mod.f k a b) (mod a b) := by
  refine Ev.bind (both_is a b) ?_
  by_cases g : good a ∧ good b
  · refine E.pos (decide_eq_true g) (E.ite (fun z => ?_) (fun z => ?_))
    · rw [show mod a b = (0, false) from if_neg (fun h => h.2.2 z)]; exact Ev.now _
    · have gb := g.2
      have ga := g.1
      unfold good at gb ga
      rw [show mod a b = (a - b * flr a b, true) from if_pos ⟨g.1, g.2, z⟩]
      refine E.bindn (floor_is z g.1 (by omega)).1 ?_
      have bd := (mod_bd (a := a) z g.2).1
      unfold good at bd
      rw [Int.mul_comm (flr a b) b, E.w64 (x := b * flr a b) (by omega) (by omega), E.w64 (x := a - b * flr a b) (by omega) (by omega)]
      exact Ev.now _
  · rw [show mod a b = (0, false) from if_neg (fun h => g ⟨h.1, h.2.1⟩)]
    exact E.neg (by simpa using g) (Ev.now _)
def add (a b : Int) : Int × Bool := if good a ∧ good b then out (a + b) else (0, false)
theorem Add_is (a b : Int) : Ev (fun k => num_Add.f k a b) (add a b) := by
  refine Ev.bind (both_is a b) ?_
  by_cases g : good a ∧ good b
  · rw [show add a b = out (a + b) from if_pos g]
    have ga := g.1; have gb := g.2
    unfold good at ga gb
    refine E.pos (decide_eq_true g) ?_
    rw [E.w64 (x := a + b) (by omega) (by omega), told_is]
    exact Ev.now _
  · rw [show add a b = (0, false) from if_neg g]
    exact E.neg (by simpa using g) (Ev.now _)
theorem Sub_is (a b : Int) : Ev (fun k => num_Sub.f k a b) (add a (-b)) := by
  refine Ev.bind (both_is a b) ?_
  by_cases g : good a ∧ good b
  · have ga := g.1; have gb := g.2
    unfold good at ga gb
    rw [show add a (-b) = out (a + -b) from if_pos (show good a ∧ good (-b) by unfold good; omega)]
    refine E.pos (decide_eq_true g) ?_
    rw [E.w64 (x := a - b) (by omega) (by omega), told_is, Int.sub_eq_add_neg]
    exact Ev.now _
  · rw [show add a (-b) = (0, false) from if_neg (show ¬ (good a ∧ good (-b)) from fun h => g (by unfold good at h ⊢; omega))]
    exact E.neg (by simpa using g) (Ev.now _)

theorem mul_no {a b : Int} (h : ¬ (mul a b).2 = true) : mul a b = (0, false) := by
  unfold mul at h ⊢
  by_cases g : good a ∧ good b
  · rw [if_pos g] at h ⊢
    unfold sgn at h ⊢
    by_cases c : (ab a * ab b + 5000) / 10000 > 100000000000
    · rw [if_pos c]
    · rw [if_neg c] at h
      split at h <;> simp at h
  · rw [if_neg g]
theorem sgn_good {u a b : Int} (h : 0 ≤ u) : good (sgn u a b).1 := by
  unfold sgn
  by_cases c : u > 100000000000
  · rw [if_pos c]; unfold good; omega
  · rw [if_neg c]
    split <;> (unfold good; simp only; omega)
theorem mul_good (a b : Int) : good (mul a b).1 := by
  unfold mul
  by_cases g : good a ∧ good b
  · rw [if_pos g]
    have pb := prod_bd (ab_bd g.1).1 (ab_bd g.1).2 (ab_bd g.2).1 (ab_bd g.2).2
    exact sgn_good (by omega)
  · rw [if_neg g]; unfold good; simp only; omega

/-- so many times a number -/
def pw (a : Int) : Nat → Int → Int × Bool
  | 0, p => (p, true)
  | n + 1, p => if (mul p a).2 = true then pw a n (mul p a).1 else (0, false)
theorem pw_snoc (a : Int) : ∀ (n : Nat) (p : Int), pw a (n + 1) p = if (pw a n p).2 = true then mul (pw a n p).1 a else (0, false) := by
  intro n
  induction n with
  | zero =>
    intro p
    show (if (mul p a).2 = true then ((mul p a).1, true) else (0, false)) = if true = true then mul p a else (0, false)
    by_cases c : (mul p a).2 = true
    · rw [if_pos c, if_pos rfl]; exact Prod.ext rfl c.symm
    · rw [if_neg c, if_pos rfl, mul_no c]
  | succ n ih =>
    intro p
    show (if (mul p a).2 = true then pw a (n + 1) (mul p a).1 else (0, false)) = if (if (mul p a).2 = true then pw a n (mul p a).1 else (0, false)).2 = true then mul (if (mul p a).2 = true then pw a n (mul p a).1 else (0, false)).1 a else (0, false)
    by_cases c : (mul p a).2 = true
    · rw [if_pos c, if_pos c]; exact ih _
    · rw [if_neg c, if_neg c]; simp
def pow (a b : Int) : Int × Bool :=
  if (whole b).2 = true ∧ good a ∧ -64 ≤ (whole b).1 ∧ (whole b).1 ≤ 64 ∧ ¬ (a = 0 ∧ (whole b).1 = 0) then
    (if (pw a (ab (whole b).1).toNat 10000).2 = true then (if (whole b).1 < 0 then div 10000 (pw a (ab (whole b).1).toNat 10000).1 else ((pw a (ab (whole b).1).toNat 10000).1, true)) else (0, false)) else (0, false)
end Go.Proofs.YtficjmgofbdohaaDoor.Nm
