-- Written by a program of this session (wip/tools/xprint.py), out of the seat's translation. Not trusted: Lean checks it.
import Derived.Test.YtficjmgofbdohaaDoorPx0
import Derived.Test.YtficjmgofbdohaaDoorPx4
import Derived.Test.YtficjmgofbdohaaDoorPx5
import Derived.Test.YtficjmgofbdohaaDoorPx6
import Derived.Test.YtficjmgofbdohaaDoorPx7
import Derived.Test.YtficjmgofbdohaaDoorPx8
namespace Go.Proofs.YtficjmgofbdohaaDoor.P
open Go.RowKit Go.Proofs.YtficjmgofbdohaaDoorW.PrintWords Go.Proofs.YtficjmgofbdohaaDoorW.PrintLast Go.Proofs.YtficjmgofbdohaaDoorW.PrintMore
attribute [local go_sem] max2_int min2_int max_two min_two max_three min_three max_four min_four   -- for this text's walks alone
set_option linter.unusedVariables false
set_option linter.unusedSimpArgs false

/-! ### octavolaw05_NumPairs: function 9 -/
mutual
def octavolaw05_NumPairs.j0 : Nat → Int → Int → Bool → Option (Bool)
  | 0, _, _, _ => none
  | k + 1, x0, x1, x9 => (num_Mul.f k x0 x1).bind fun bt253 => ((octavoref05_Mul.f k x0 x1).bind fun bt255 => (if x9 = true then ((octavolaw05_same.f bt253.1 bt253.2 bt255.1 bt255.2).bind fun t257 => (octavolaw05_NumPairs.j1 k x0 x1 t257)) else (octavolaw05_NumPairs.j1 k x0 x1 false)))
def octavolaw05_NumPairs.j1 : Nat → Int → Int → Bool → Option (Bool)
  | 0, _, _, _ => none
  | k + 1, x0, x1, x9 => (num_Div.f k x0 x1).bind fun bt258 => ((octavoref05_Div.f k x0 x1).bind fun bt260 => (if x9 = true then ((octavolaw05_same.f bt258.1 bt258.2 bt260.1 bt260.2).bind fun t262 => (octavolaw05_NumPairs.j2 k x0 x1 t262)) else (octavolaw05_NumPairs.j2 k x0 x1 false)))
def octavolaw05_NumPairs.j2 : Nat → Int → Int → Bool → Option (Bool)
  | 0, _, _, _ => none
  | k + 1, x0, x1, x9 => (num_Pow.f k x0 x1).bind fun bt263 => ((octavoref05_Pow.f k x0 x1).bind fun bt265 => (if x9 = true then ((octavolaw05_same.f bt263.1 bt263.2 bt265.1 bt265.2).bind fun t267 => (octavolaw05_NumPairs.j3 k x0 x1 t267)) else (octavolaw05_NumPairs.j3 k x0 x1 false)))
def octavolaw05_NumPairs.j3 : Nat → Int → Int → Bool → Option (Bool)
  | 0, _, _, _ => none
  | k + 1, x0, x1, x9 => (num_Mod.f k x0 x1).bind fun bt268 => ((octavoref05_Mod.f k x0 x1).bind fun bt270 => (if x9 = true then ((octavolaw05_same.f bt268.1 bt268.2 bt270.1 bt270.2).bind fun t272 => (octavolaw05_NumPairs.j4 k x0 x1 t272)) else (octavolaw05_NumPairs.j4 k x0 x1 false)))
def octavolaw05_NumPairs.j4 : Nat → Int → Int → Bool → Option (Bool)
  | 0, _, _, _ => none
  | k + 1, x0, x1, x9 => (num_Quo.f k x0 x1).bind fun bt273 => ((octavoref05_Quo.f x0 x1).bind fun bt275 => (if x9 = true then ((octavolaw05_same.f bt273.1 bt273.2 bt275.1 bt275.2).bind fun t277 => (octavolaw05_NumPairs.j5 k x0 x1 t277)) else (octavolaw05_NumPairs.j5 k x0 x1 false)))
def octavolaw05_NumPairs.j5 : Nat → Int → Int → Bool → Option (Bool)
  | 0, _, _, _ => none
  | k + 1, x0, x1, x9 => (num_Comb.f k x0 x1).bind fun bt278 => ((octavoref05_Comb.f k x0 x1).bind fun bt280 => (if x9 = true then ((octavolaw05_same.f bt278.1 bt278.2 bt280.1 bt280.2).bind fun t282 => (if t282 = true then ((num_Gcd.f k x0 x1).bind fun t283 => ((octavoref05_Gcd.f k x0 x1).bind fun t284 => (if t283 = t284 then ((octavolaw05_lives.f k).bind fun t285 => (some t285)) else (some false)))) else (some false))) else (some false)))
end
def octavolaw05_NumPairs.f (k : Nat) (a0 : Int) (a1 : Int) : Option (Bool) := (num_Add.f k a0 a1).bind fun bt243 => ((octavoref05_Add.f a0 a1).bind fun bt245 => ((octavolaw05_same.f bt243.1 bt243.2 bt245.1 bt245.2).bind fun t247 => ((num_Sub.f k a0 a1).bind fun bt248 => ((octavoref05_Sub.f a0 a1).bind fun bt250 => (if t247 = true then ((octavolaw05_same.f bt248.1 bt248.2 bt250.1 bt250.2).bind fun t252 => (octavolaw05_NumPairs.j0 k a0 a1 t252)) else (octavolaw05_NumPairs.j0 k a0 a1 false))))))
theorem octavolaw05_NumPairs.mono_l : ∀ k, (∀ y0 y1 y2, LeO (octavolaw05_NumPairs.j0 k y0 y1 y2) (octavolaw05_NumPairs.j0 (k + 1) y0 y1 y2)) ∧ (∀ y0 y1 y2, LeO (octavolaw05_NumPairs.j1 k y0 y1 y2) (octavolaw05_NumPairs.j1 (k + 1) y0 y1 y2)) ∧ (∀ y0 y1 y2, LeO (octavolaw05_NumPairs.j2 k y0 y1 y2) (octavolaw05_NumPairs.j2 (k + 1) y0 y1 y2)) ∧ (∀ y0 y1 y2, LeO (octavolaw05_NumPairs.j3 k y0 y1 y2) (octavolaw05_NumPairs.j3 (k + 1) y0 y1 y2)) ∧ (∀ y0 y1 y2, LeO (octavolaw05_NumPairs.j4 k y0 y1 y2) (octavolaw05_NumPairs.j4 (k + 1) y0 y1 y2)) ∧ (∀ y0 y1 y2, LeO (octavolaw05_NumPairs.j5 k y0 y1 y2) (octavolaw05_NumPairs.j5 (k + 1) y0 y1 y2))
  | 0 => ⟨fun _ _ _ r h => by simp [octavolaw05_NumPairs.j0] at h, fun _ _ _ r h => by simp [octavolaw05_NumPairs.j1] at h, fun _ _ _ r h => by simp [octavolaw05_NumPairs.j2] at h, fun _ _ _ r h => by simp [octavolaw05_NumPairs.j3] at h, fun _ _ _ r h => by simp [octavolaw05_NumPairs.j4] at h, fun _ _ _ r h => by simp [octavolaw05_NumPairs.j5] at h⟩
  | k + 1 => by
    obtain ⟨ih0, ih1, ih2, ih3, ih4, ih5⟩ := octavolaw05_NumPairs.mono_l k
    refine ⟨?_, ?_, ?_, ?_, ?_, ?_⟩
    · intro y0 y1 y2
      unfold octavolaw05_NumPairs.j0
      repeat' first
      | (with_reducible exact ih0 _ _ _)
      | (with_reducible exact ih1 _ _ _)
      | (with_reducible exact ih2 _ _ _)
      | (with_reducible exact ih3 _ _ _)
      | (with_reducible exact ih4 _ _ _)
      | (with_reducible exact ih5 _ _ _)
      | (with_reducible exact num_Add.mono _ _ _)
      | (with_reducible exact num_Comb.mono _ _ _)
      | (with_reducible exact num_Div.mono _ _ _)
      | (with_reducible exact num_Gcd.mono _ _ _)
      | (with_reducible exact num_Mod.mono _ _ _)
      | (with_reducible exact num_Mul.mono _ _ _)
      | (with_reducible exact num_Pow.mono _ _ _)
      | (with_reducible exact num_Quo.mono _ _ _)
      | (with_reducible exact num_Sub.mono _ _ _)
      | (with_reducible exact octavolaw05_lives.mono _)
      | (with_reducible exact octavoref05_Comb.mono _ _ _)
      | (with_reducible exact octavoref05_Div.mono _ _ _)
      | (with_reducible exact octavoref05_Gcd.mono _ _ _)
      | (with_reducible exact octavoref05_Mod.mono _ _ _)
      | (with_reducible exact octavoref05_Mul.mono _ _ _)
      | (with_reducible exact octavoref05_Pow.mono _ _ _)
      | (with_reducible exact LeO.refl _)
      | (with_reducible exact LeO.none _)
      | (with_reducible refine LeO.ite ?_ ?_)
      | (with_reducible refine LeO.bind ?_ (fun _ => ?_))
      | exact ih0 _ _ _
      | exact ih1 _ _ _
      | exact ih2 _ _ _
      | exact ih3 _ _ _
      | exact ih4 _ _ _
      | exact ih5 _ _ _
      | exact num_Add.mono _ _ _
      | exact num_Comb.mono _ _ _
      | exact num_Div.mono _ _ _
      | exact num_Gcd.mono _ _ _
      | exact num_Mod.mono _ _ _
      | exact num_Mul.mono _ _ _
      | exact num_Pow.mono _ _ _
      | exact num_Quo.mono _ _ _
      | exact num_Sub.mono _ _ _
      | exact octavolaw05_lives.mono _
      | exact octavoref05_Comb.mono _ _ _
      | exact octavoref05_Div.mono _ _ _
      | exact octavoref05_Gcd.mono _ _ _
      | exact octavoref05_Mod.mono _ _ _
      | exact octavoref05_Mul.mono _ _ _
      | exact octavoref05_Pow.mono _ _ _
      | exact LeO.none _
      | refine LeO.ite ?_ ?_
      | refine LeO.bind ?_ (fun _ => ?_)
    · intro y0 y1 y2
      unfold octavolaw05_NumPairs.j1
      repeat' first
      | (with_reducible exact ih0 _ _ _)
      | (with_reducible exact ih1 _ _ _)
      | (with_reducible exact ih2 _ _ _)
      | (with_reducible exact ih3 _ _ _)
      | (with_reducible exact ih4 _ _ _)
      | (with_reducible exact ih5 _ _ _)
      | (with_reducible exact num_Add.mono _ _ _)
      | (with_reducible exact num_Comb.mono _ _ _)
      | (with_reducible exact num_Div.mono _ _ _)
      | (with_reducible exact num_Gcd.mono _ _ _)
      | (with_reducible exact num_Mod.mono _ _ _)
      | (with_reducible exact num_Mul.mono _ _ _)
      | (with_reducible exact num_Pow.mono _ _ _)
      | (with_reducible exact num_Quo.mono _ _ _)
      | (with_reducible exact num_Sub.mono _ _ _)
      | (with_reducible exact octavolaw05_lives.mono _)
      | (with_reducible exact octavoref05_Comb.mono _ _ _)
      | (with_reducible exact octavoref05_Div.mono _ _ _)
      | (with_reducible exact octavoref05_Gcd.mono _ _ _)
      | (with_reducible exact octavoref05_Mod.mono _ _ _)
      | (with_reducible exact octavoref05_Mul.mono _ _ _)
      | (with_reducible exact octavoref05_Pow.mono _ _ _)
      | (with_reducible exact LeO.refl _)
      | (with_reducible exact LeO.none _)
      | (with_reducible refine LeO.ite ?_ ?_)
      | (with_reducible refine LeO.bind ?_ (fun _ => ?_))
      | exact ih0 _ _ _
      | exact ih1 _ _ _
      | exact ih2 _ _ _
      | exact ih3 _ _ _
      | exact ih4 _ _ _
      | exact ih5 _ _ _
      | exact num_Add.mono _ _ _
      | exact num_Comb.mono _ _ _
      | exact num_Div.mono _ _ _
      | exact num_Gcd.mono _ _ _
      | exact num_Mod.mono _ _ _
      | exact num_Mul.mono _ _ _
      | exact num_Pow.mono _ _ _
      | exact num_Quo.mono _ _ _
      | exact num_Sub.mono _ _ _
      | exact octavolaw05_lives.mono _
      | exact octavoref05_Comb.mono _ _ _
      | exact octavoref05_Div.mono _ _ _
      | exact octavoref05_Gcd.mono _ _ _
      | exact octavoref05_Mod.mono _ _ _
      | exact octavoref05_Mul.mono _ _ _
      | exact octavoref05_Pow.mono _ _ _
      | exact LeO.none _
      | refine LeO.ite ?_ ?_
      | refine LeO.bind ?_ (fun _ => ?_)
    · intro y0 y1 y2
      unfold octavolaw05_NumPairs.j2
      repeat' first
      | (with_reducible exact ih0 _ _ _)
      | (with_reducible exact ih1 _ _ _)
      | (with_reducible exact ih2 _ _ _)
      | (with_reducible exact ih3 _ _ _)
      | (with_reducible exact ih4 _ _ _)
      | (with_reducible exact ih5 _ _ _)
      | (with_reducible exact num_Add.mono _ _ _)
      | (with_reducible exact num_Comb.mono _ _ _)
      | (with_reducible exact num_Div.mono _ _ _)
      | (with_reducible exact num_Gcd.mono _ _ _)
      | (with_reducible exact num_Mod.mono _ _ _)
      | (with_reducible exact num_Mul.mono _ _ _)
      | (with_reducible exact num_Pow.mono _ _ _)
      | (with_reducible exact num_Quo.mono _ _ _)
      | (with_reducible exact num_Sub.mono _ _ _)
      | (with_reducible exact octavolaw05_lives.mono _)
      | (with_reducible exact octavoref05_Comb.mono _ _ _)
      | (with_reducible exact octavoref05_Div.mono _ _ _)
      | (with_reducible exact octavoref05_Gcd.mono _ _ _)
      | (with_reducible exact octavoref05_Mod.mono _ _ _)
      | (with_reducible exact octavoref05_Mul.mono _ _ _)
      | (with_reducible exact octavoref05_Pow.mono _ _ _)
      | (with_reducible exact LeO.refl _)
      | (with_reducible exact LeO.none _)
      | (with_reducible refine LeO.ite ?_ ?_)
      | (with_reducible refine LeO.bind ?_ (fun _ => ?_))
      | exact ih0 _ _ _
      | exact ih1 _ _ _
      | exact ih2 _ _ _
      | exact ih3 _ _ _
      | exact ih4 _ _ _
      | exact ih5 _ _ _
      | exact num_Add.mono _ _ _
      | exact num_Comb.mono _ _ _
      | exact num_Div.mono _ _ _
      | exact num_Gcd.mono _ _ _
      | exact num_Mod.mono _ _ _
      | exact num_Mul.mono _ _ _
      | exact num_Pow.mono _ _ _
      | exact num_Quo.mono _ _ _
      | exact num_Sub.mono _ _ _
      | exact octavolaw05_lives.mono _
      | exact octavoref05_Comb.mono _ _ _
      | exact octavoref05_Div.mono _ _ _
      | exact octavoref05_Gcd.mono _ _ _
      | exact octavoref05_Mod.mono _ _ _
      | exact octavoref05_Mul.mono _ _ _
      | exact octavoref05_Pow.mono _ _ _
      | exact LeO.none _
      | refine LeO.ite ?_ ?_
      | refine LeO.bind ?_ (fun _ => ?_)
    · intro y0 y1 y2
      unfold octavolaw05_NumPairs.j3
      repeat' first
      | (with_reducible exact ih0 _ _ _)
      | (with_reducible exact ih1 _ _ _)
      | (with_reducible exact ih2 _ _ _)
      | (with_reducible exact ih3 _ _ _)
      | (with_reducible exact ih4 _ _ _)
      | (with_reducible exact ih5 _ _ _)
      | (with_reducible exact num_Add.mono _ _ _)
      | (with_reducible exact num_Comb.mono _ _ _)
      | (with_reducible exact num_Div.mono _ _ _)
      | (with_reducible exact num_Gcd.mono _ _ _)
      | (with_reducible exact num_Mod.mono _ _ _)
      | (with_reducible exact num_Mul.mono _ _ _)
      | (with_reducible exact num_Pow.mono _ _ _)
      | (with_reducible exact num_Quo.mono _ _ _)
      | (with_reducible exact num_Sub.mono _ _ _)
      | (with_reducible exact octavolaw05_lives.mono _)
      | (with_reducible exact octavoref05_Comb.mono _ _ _)
      | (with_reducible exact octavoref05_Div.mono _ _ _)
      | (with_reducible exact octavoref05_Gcd.mono _ _ _)
      | (with_reducible exact octavoref05_Mod.mono _ _ _)
      | (with_reducible exact octavoref05_Mul.mono _ _ _)
      | (with_reducible exact octavoref05_Pow.mono _ _ _)
      | (with_reducible exact LeO.refl _)
      | (with_reducible exact LeO.none _)
      | (with_reducible refine LeO.ite ?_ ?_)
      | (with_reducible refine LeO.bind ?_ (fun _ => ?_))
      | exact ih0 _ _ _
      | exact ih1 _ _ _
      | exact ih2 _ _ _
      | exact ih3 _ _ _
      | exact ih4 _ _ _
      | exact ih5 _ _ _
      | exact num_Add.mono _ _ _
      | exact num_Comb.mono _ _ _
      | exact num_Div.mono _ _ _
      | exact num_Gcd.mono _ _ _
      | exact num_Mod.mono _ _ _
      | exact num_Mul.mono _ _ _
      | exact num_Pow.mono _ _ _
      | exact num_Quo.mono _ _ _
      | exact num_Sub.mono _ _ _
      | exact octavolaw05_lives.mono _
      | exact octavoref05_Comb.mono _ _ _
      | exact octavoref05_Div.mono _ _ _
      | exact octavoref05_Gcd.mono _ _ _
      | exact octavoref05_Mod.mono _ _ _
      | exact octavoref05_Mul.mono _ _ _
      | exact octavoref05_Pow.mono _ _ _
      | exact LeO.none _
      | refine LeO.ite ?_ ?_
      | refine LeO.bind ?_ (fun _ => ?_)
    · intro y0 y1 y2
      unfold octavolaw05_NumPairs.j4
      repeat' first
      | (with_reducible exact ih0 _ _ _)
      | (with_reducible exact ih1 _ _ _)
      | (with_reducible exact ih2 _ _ _)
      | (with_reducible exact ih3 _ _ _)
      | (with_reducible exact ih4 _ _ _)
      | (with_reducible exact ih5 _ _ _)
      | (with_reducible exact num_Add.mono _ _ _)
      | (with_reducible exact num_Comb.mono _ _ _)
      | (with_reducible exact num_Div.mono _ _ _)
      | (with_reducible exact num_Gcd.mono _ _ _)
      | (with_reducible exact num_Mod.mono _ _ _)
      | (with_reducible exact num_Mul.mono _ _ _)
      | (with_reducible exact num_Pow.mono _ _ _)
      | (with_reducible exact num_Quo.mono _ _ _)
      | (with_reducible exact num_Sub.mono _ _ _)
      | (with_reducible exact octavolaw05_lives.mono _)
      | (with_reducible exact octavoref05_Comb.mono _ _ _)
      | (with_reducible exact octavoref05_Div.mono _ _ _)
      | (with_reducible exact octavoref05_Gcd.mono _ _ _)
      | (with_reducible exact octavoref05_Mod.mono _ _ _)
      | (with_reducible exact octavoref05_Mul.mono _ _ _)
      | (with_reducible exact octavoref05_Pow.mono _ _ _)
      | (with_reducible exact LeO.refl _)
      | (with_reducible exact LeO.none _)
      | (with_reducible refine LeO.ite ?_ ?_)
      | (with_reducible refine LeO.bind ?_ (fun _ => ?_))
      | exact ih0 _ _ _
      | exact ih1 _ _ _
      | exact ih2 _ _ _
      | exact ih3 _ _ _
      | exact ih4 _ _ _
      | exact ih5 _ _ _
      | exact num_Add.mono _ _ _
      | exact num_Comb.mono _ _ _
      | exact num_Div.mono _ _ _
      | exact num_Gcd.mono _ _ _
      | exact num_Mod.mono _ _ _
      | exact num_Mul.mono _ _ _
      | exact num_Pow.mono _ _ _
      | exact num_Quo.mono _ _ _
      | exact num_Sub.mono _ _ _
      | exact octavolaw05_lives.mono _
      | exact octavoref05_Comb.mono _ _ _
      | exact octavoref05_Div.mono _ _ _
      | exact octavoref05_Gcd.mono _ _ _
      | exact octavoref05_Mod.mono _ _ _
      | exact octavoref05_Mul.mono _ _ _
      | exact octavoref05_Pow.mono _ _ _
      | exact LeO.none _
      | refine LeO.ite ?_ ?_
      | refine LeO.bind ?_ (fun _ => ?_)
    · intro y0 y1 y2
      unfold octavolaw05_NumPairs.j5
      repeat' first
      | (with_reducible exact ih0 _ _ _)
      | (with_reducible exact ih1 _ _ _)
      | (with_reducible exact ih2 _ _ _)
      | (with_reducible exact ih3 _ _ _)
      | (with_reducible exact ih4 _ _ _)
      | (with_reducible exact ih5 _ _ _)
      | (with_reducible exact num_Add.mono _ _ _)
      | (with_reducible exact num_Comb.mono _ _ _)
      | (with_reducible exact num_Div.mono _ _ _)
      | (with_reducible exact num_Gcd.mono _ _ _)
      | (with_reducible exact num_Mod.mono _ _ _)
      | (with_reducible exact num_Mul.mono _ _ _)
      | (with_reducible exact num_Pow.mono _ _ _)
      | (with_reducible exact num_Quo.mono _ _ _)
      | (with_reducible exact num_Sub.mono _ _ _)
      | (with_reducible exact octavolaw05_lives.mono _)
      | (with_reducible exact octavoref05_Comb.mono _ _ _)
      | (with_reducible exact octavoref05_Div.mono _ _ _)
      | (with_reducible exact octavoref05_Gcd.mono _ _ _)
      | (with_reducible exact octavoref05_Mod.mono _ _ _)
      | (with_reducible exact octavoref05_Mul.mono _ _ _)
      | (with_reducible exact octavoref05_Pow.mono _ _ _)
      | (with_reducible exact LeO.refl _)
      | (with_reducible exact LeO.none _)
      | (with_reducible refine LeO.ite ?_ ?_)
      | (with_reducible refine LeO.bind ?_ (fun _ => ?_))
      | exact ih0 _ _ _
      | exact ih1 _ _ _
      | exact ih2 _ _ _
      | exact ih3 _ _ _
      | exact ih4 _ _ _
      | exact ih5 _ _ _
      | exact num_Add.mono _ _ _
      | exact num_Comb.mono _ _ _
      | exact num_Div.mono _ _ _
      | exact num_Gcd.mono _ _ _
      | exact num_Mod.mono _ _ _
      | exact num_Mul.mono _ _ _
      | exact num_Pow.mono _ _ _
      | exact num_Quo.mono _ _ _
      | exact num_Sub.mono _ _ _
      | exact octavolaw05_lives.mono _
      | exact octavoref05_Comb.mono _ _ _
      | exact octavoref05_Div.mono _ _ _
      | exact octavoref05_Gcd.mono _ _ _
      | exact octavoref05_Mod.mono _ _ _
      | exact octavoref05_Mul.mono _ _ _
      | exact octavoref05_Pow.mono _ _ _
      | exact LeO.none _
      | refine LeO.ite ?_ ?_
      | refine LeO.bind ?_ (fun _ => ?_)
theorem octavolaw05_NumPairs.mono : ∀ a0 a1 k, LeO (octavolaw05_NumPairs.f k a0 a1) (octavolaw05_NumPairs.f (k + 1) a0 a1) := by
  intro a0 a1 k
  obtain ⟨ih0, ih1, ih2, ih3, ih4, ih5⟩ := octavolaw05_NumPairs.mono_l k
  unfold octavolaw05_NumPairs.f
  repeat' first
      | (with_reducible exact ih0 _ _ _)
      | (with_reducible exact ih1 _ _ _)
      | (with_reducible exact ih2 _ _ _)
      | (with_reducible exact ih3 _ _ _)
      | (with_reducible exact ih4 _ _ _)
      | (with_reducible exact ih5 _ _ _)
      | (with_reducible exact num_Add.mono _ _ _)
      | (with_reducible exact num_Comb.mono _ _ _)
      | (with_reducible exact num_Div.mono _ _ _)
      | (with_reducible exact num_Gcd.mono _ _ _)
      | (with_reducible exact num_Mod.mono _ _ _)
      | (with_reducible exact num_Mul.mono _ _ _)
      | (with_reducible exact num_Pow.mono _ _ _)
      | (with_reducible exact num_Quo.mono _ _ _)
      | (with_reducible exact num_Sub.mono _ _ _)
      | (with_reducible exact octavolaw05_lives.mono _)
      | (with_reducible exact octavoref05_Comb.mono _ _ _)
      | (with_reducible exact octavoref05_Div.mono _ _ _)
      | (with_reducible exact octavoref05_Gcd.mono _ _ _)
      | (with_reducible exact octavoref05_Mod.mono _ _ _)
      | (with_reducible exact octavoref05_Mul.mono _ _ _)
      | (with_reducible exact octavoref05_Pow.mono _ _ _)
      | (with_reducible exact LeO.refl _)
      | (with_reducible exact LeO.none _)
      | (with_reducible refine LeO.ite ?_ ?_)
      | (with_reducible refine LeO.bind ?_ (fun _ => ?_))
      | exact ih0 _ _ _
      | exact ih1 _ _ _
      | exact ih2 _ _ _
      | exact ih3 _ _ _
      | exact ih4 _ _ _
      | exact ih5 _ _ _
      | exact num_Add.mono _ _ _
      | exact num_Comb.mono _ _ _
      | exact num_Div.mono _ _ _
      | exact num_Gcd.mono _ _ _
      | exact num_Mod.mono _ _ _
      | exact num_Mul.mono _ _ _
      | exact num_Pow.mono _ _ _
      | exact num_Quo.mono _ _ _
      | exact num_Sub.mono _ _ _
      | exact octavolaw05_lives.mono _
      | exact octavoref05_Comb.mono _ _ _
      | exact octavoref05_Div.mono _ _ _
      | exact octavoref05_Gcd.mono _ _ _
      | exact octavoref05_Mod.mono _ _ _
      | exact octavoref05_Mul.mono _ _ _
      | exact octavoref05_Pow.mono _ _ _
      | exact LeO.none _
      | refine LeO.ite ?_ ?_
      | refine LeO.bind ?_ (fun _ => ?_)
set_option maxHeartbeats 8000000 in
set_option maxRecDepth 100000 in
theorem octavolaw05_NumPairs.calls (k : Nat) (a0 : Int) (a1 : Int) (r : Bool) (w : World) (h : octavolaw05_NumPairs.f k a0 a1 = some r) :
    Calls Tryd.prog 9 #[.int .i64 a0, .int .i64 a1] w fun e w' => e = .returned (.bool r) ∧ Below w.heap.size w w' := by
  have HB := Aside0.mk (Below.refl w.heap.size w)
  have H : ((num_Add.f k a0 a1).bind fun bt243 => ((octavoref05_Add.f a0 a1).bind fun bt245 => ((octavolaw05_same.f bt243.1 bt243.2 bt245.1 bt245.2).bind fun t247 => ((num_Sub.f k a0 a1).bind fun bt248 => ((octavoref05_Sub.f a0 a1).bind fun bt250 => (if t247 = true then ((octavolaw05_same.f bt248.1 bt248.2 bt250.1 bt250.2).bind fun t252 => (octavolaw05_NumPairs.j0 k a0 a1 t252)) else (octavolaw05_NumPairs.j0 k a0 a1 false))))))) = some r := h
  clear h
  replace H := Option.bind_eq_some_iff.mp H
  obtain ⟨⟨t243, t244⟩, A30, H⟩ := H
  replace H : ((octavoref05_Add.f a0 a1).bind fun bt245 => ((octavolaw05_same.f t243 t244 bt245.1 bt245.2).bind fun t247 => ((num_Sub.f k a0 a1).bind fun bt248 => ((octavoref05_Sub.f a0 a1).bind fun bt250 => (if t247 = true then ((octavolaw05_same.f bt248.1 bt248.2 bt250.1 bt250.2).bind fun t252 => (octavolaw05_NumPairs.j0 k a0 a1 t252)) else (octavolaw05_NumPairs.j0 k a0 a1 false)))))) = some r := H
  have A3 := Aside0.mk A30
  clear A30
  replace H := Option.bind_eq_some_iff.mp H
  obtain ⟨⟨t245, t246⟩, A40, H⟩ := H
  replace H : ((octavolaw05_same.f t243 t244 t245 t246).bind fun t247 => ((num_Sub.f k a0 a1).bind fun bt248 => ((octavoref05_Sub.f a0 a1).bind fun bt250 => (if t247 = true then ((octavolaw05_same.f bt248.1 bt248.2 bt250.1 bt250.2).bind fun t252 => (octavolaw05_NumPairs.j0 k a0 a1 t252)) else (octavolaw05_NumPairs.j0 k a0 a1 false))))) = some r := H
  have A4 := Aside0.mk A40
  clear A40
  replace H := Option.bind_eq_some_iff.mp H
  obtain ⟨t247, A50, H⟩ := H
  replace H : ((num_Sub.f k a0 a1).bind fun bt248 => ((octavoref05_Sub.f a0 a1).bind fun bt250 => (if t247 = true then ((octavolaw05_same.f bt248.1 bt248.2 bt250.1 bt250.2).bind fun t252 => (octavolaw05_NumPairs.j0 k a0 a1 t252)) else (octavolaw05_NumPairs.j0 k a0 a1 false)))) = some r := H
  have A5 := Aside0.mk A50
  clear A50
  replace H := Option.bind_eq_some_iff.mp H
  obtain ⟨⟨t248, t249⟩, A60, H⟩ := H
  replace H : ((octavoref05_Sub.f a0 a1).bind fun bt250 => (if t247 = true then ((octavolaw05_same.f t248 t249 bt250.1 bt250.2).bind fun t252 => (octavolaw05_NumPairs.j0 k a0 a1 t252)) else (octavolaw05_NumPairs.j0 k a0 a1 false))) = some r := H
  have A6 := Aside0.mk A60
  clear A60
  replace H := Option.bind_eq_some_iff.mp H
  obtain ⟨⟨t250, t251⟩, A70, H⟩ := H
  replace H : (if t247 = true then ((octavolaw05_same.f t248 t249 t250 t251).bind fun t252 => (octavolaw05_NumPairs.j0 k a0 a1 t252)) else (octavolaw05_NumPairs.j0 k a0 a1 false)) = some r := H
  have A7 := Aside0.mk A70
  clear A70
  have HC8 := Aside0.mk H
  clear H
  go_enter Tryd.func9, Tryd.ntmps9
  go_upto_region 6 with (first | ((with_reducible refine gate_callee (f := 30) rfl ?_); refine goesL_ (some 13) rfl rfl Tryd.func30 (by kernel_rfl) rfl #[.int .i64 a0, .int .i64 a1] rfl (by (try simp only [List.map_toArray, List.map_cons, List.map_nil]); first | done | rfl | (simp only [List.length_drop, List.length_take]; rfl)) ?_; (with_reducible refine (num_Add.calls k a0 a1 t243 t244 _ A3.out).mono ?_); rintro e w9 ⟨rfl, hb⟩; refine ⟨_, rfl, ?_⟩; have n0_ := Aside0.mk (below_step (by repeat (first | (with_reducible first | exact HB.out | apply below_alloc | apply pw_below_drewN | apply below_drew1) | exact HB.out)) hb); clear HB; have HB := n0_; clear n0_; (try clear hb); (try clear hb2); (try clear hk); (try clear hi)) | ((with_reducible refine gate_callee (f := 33) rfl ?_); refine goesL_ (some 19) rfl rfl Tryd.func33 (by kernel_rfl) rfl #[.int .i64 a0, .int .i64 a1] rfl (by (try simp only [List.map_toArray, List.map_cons, List.map_nil]); first | done | rfl | (simp only [List.length_drop, List.length_take]; rfl)) ?_; (with_reducible refine (octavoref05_Add.calls a0 a1 t245 t246 _ A4.out).mono ?_); rintro e w' ⟨rfl, ⟨nd, rfl⟩⟩; refine ⟨_, rfl, ?_⟩) | ((with_reducible refine gate_callee (f := 23) rfl ?_); refine goesL_ (some 26) rfl rfl Tryd.func23 (by kernel_rfl) rfl #[.int .i64 t243, .bool t244, .int .i64 t245, .bool t246] rfl (by (try simp only [List.map_toArray, List.map_cons, List.map_nil]); first | done | rfl | (simp only [List.length_drop, List.length_take]; rfl)) ?_; (with_reducible refine (octavolaw05_same.calls t243 t244 t245 t246 t247 _ A5.out).mono ?_); rintro e w' ⟨rfl, ⟨nd, rfl⟩⟩; refine ⟨_, rfl, ?_⟩) | ((with_reducible refine gate_callee (f := 31) rfl ?_); refine goesL_ (some 30) rfl rfl Tryd.func31 (by kernel_rfl) rfl #[.int .i64 a0, .int .i64 a1] rfl (by (try simp only [List.map_toArray, List.map_cons, List.map_nil]); first | done | rfl | (simp only [List.length_drop, List.length_take]; rfl)) ?_; (with_reducible refine (num_Sub.calls k a0 a1 t248 t249 _ A6.out).mono ?_); rintro e w10 ⟨rfl, hb⟩; refine ⟨_, rfl, ?_⟩; have n0_ := Aside0.mk (below_step (by repeat (first | (with_reducible first | exact HB.out | apply below_alloc | apply pw_below_drewN | apply below_drew1) | exact HB.out)) hb); clear HB; have HB := n0_; clear n0_; (try clear hb); (try clear hb2); (try clear hk); (try clear hi)) | ((with_reducible refine gate_callee (f := 34) rfl ?_); refine goesL_ (some 36) rfl rfl Tryd.func34 (by kernel_rfl) rfl #[.int .i64 a0, .int .i64 a1] rfl (by (try simp only [List.map_toArray, List.map_cons, List.map_nil]); first | done | rfl | (simp only [List.length_drop, List.length_take]; rfl)) ?_; (with_reducible refine (octavoref05_Sub.calls a0 a1 t250 t251 _ A7.out).mono ?_); rintro e w' ⟨rfl, ⟨nd, rfl⟩⟩; refine ⟨_, rfl, ?_⟩))
  (try simp only [Act.put, List.setIfInBounds_toArray, List.set_cons_zero, List.set_cons_succ])
  go_cut [9] (fun v9 wc => ∃ (kq : Nat) (x9_7 : Bool), v9 = .bool x9_7 ∧ Aside0 (octavolaw05_NumPairs.j0 kq a0 a1 x9_7 = some r) ∧ Aside0 (kq ≤ k) ∧ Aside0 (Below w.heap.size w wc))
  case first =>
    have H := HC8.out
    clear HC8
    by_cases c11 : t247 = true
    · subst c11
      have H1 : ((octavolaw05_same.f t248 t249 t250 t251).bind fun t252 => (octavolaw05_NumPairs.j0 k a0 a1 t252)) = some r := by rw [if_pos rfl] at H; exact H
      clear H
      have H := H1
      clear H1
      replace H := Option.bind_eq_some_iff.mp H
      obtain ⟨t252, A120, H⟩ := H
      replace H : (octavolaw05_NumPairs.j0 k a0 a1 t252) = some r := H
      have A12 := Aside0.mk A120
      clear A120
      have H' := Aside0.mk H
      clear H
      go_wp2_with (first | (go_at_call 23; (with_reducible refine (octavolaw05_same.calls t248 t249 t250 t251 t252 _ A12.out).mono ?_); rintro e w' ⟨rfl, ⟨nd, rfl⟩⟩))
      go_meet
      case rel => exact ⟨_, (t252), (by first | rfl | (simp; done) | (simp [*]; done)), H', ⟨by first | omega | exact Nat.le_refl _⟩, ⟨by repeat (first | (with_reducible first | exact HB.out | apply below_alloc | apply pw_below_drewN | apply below_drew1) | exact HB.out)⟩⟩
    · replace c11 := Bool.eq_false_iff.mpr c11
      subst c11
      have H1 : (octavolaw05_NumPairs.j0 k a0 a1 false) = some r := by rw [if_neg (show ¬ (false = true) by decide)] at H; exact H
      clear H
      have H := H1
      clear H1
      have H' := Aside0.mk H
      clear H
      go_wp2
      go_meet
      case rel => exact ⟨_, (false), (by first | rfl | (simp; done) | (simp [*]; done)), H', ⟨by first | omega | exact Nat.le_refl _⟩, ⟨by repeat (first | (with_reducible first | exact HB.out | apply below_alloc | apply pw_below_drewN | apply below_drew1) | exact HB.out)⟩⟩
  case rest =>
    clear HC8
    try clear c1
    try clear c2
    try clear p2
    try clear c3
    try clear c9
    try clear c11
    obtain ⟨kq, x9_7, rfl, HA, HJ7, HB⟩ := hcut
    cases kq with
    | zero => exact absurd HA.out (by simp [octavolaw05_NumPairs.j0])
    | succ kj7 =>
      have H := HA.out
      clear HA
      simp only [octavolaw05_NumPairs.j0] at H
      replace H := Option.bind_eq_some_iff.mp H
      obtain ⟨⟨t253, t254⟩, A130, H⟩ := H
      replace H : ((octavoref05_Mul.f kj7 a0 a1).bind fun bt255 => (if x9_7 = true then ((octavolaw05_same.f t253 t254 bt255.1 bt255.2).bind fun t257 => (octavolaw05_NumPairs.j1 kj7 a0 a1 t257)) else (octavolaw05_NumPairs.j1 kj7 a0 a1 false))) = some r := H
      have A13 := Aside0.mk A130
      clear A130
      replace H := Option.bind_eq_some_iff.mp H
      obtain ⟨⟨t255, t256⟩, A140, H⟩ := H
      replace H : (if x9_7 = true then ((octavolaw05_same.f t253 t254 t255 t256).bind fun t257 => (octavolaw05_NumPairs.j1 kj7 a0 a1 t257)) else (octavolaw05_NumPairs.j1 kj7 a0 a1 false)) = some r := H
      have A14 := Aside0.mk A140
      clear A140
      have HC15 := Aside0.mk H
      clear H
      go_upto_region 9 with (first | ((with_reducible refine gate_callee (f := 17) rfl ?_); refine goesL_ (some 50) rfl rfl Tryd.func17 (by kernel_rfl) rfl #[.int .i64 a0, .int .i64 a1] rfl (by (try simp only [List.map_toArray, List.map_cons, List.map_nil]); first | done | rfl | (simp only [List.length_drop, List.length_take]; rfl)) ?_; (with_reducible refine (num_Mul.calls kj7 a0 a1 t253 t254 _ A13.out).mono ?_); rintro e w16 ⟨rfl, hb⟩; refine ⟨_, rfl, ?_⟩; have n0_ := Aside0.mk (below_step (by repeat (first | (with_reducible first | exact HB.out | apply below_alloc | apply pw_below_drewN | apply below_drew1) | exact HB.out)) hb); clear HB; have HB := n0_; clear n0_; (try clear hb); (try clear hb2); (try clear hk); (try clear hi)) | ((with_reducible refine gate_callee (f := 35) rfl ?_); refine goesL_ (some 56) rfl rfl Tryd.func35 (by kernel_rfl) rfl #[.int .i64 a0, .int .i64 a1] rfl (by (try simp only [List.map_toArray, List.map_cons, List.map_nil]); first | done | rfl | (simp only [List.length_drop, List.length_take]; rfl)) ?_; (with_reducible refine (octavoref05_Mul.calls kj7 a0 a1 t255 t256 _ A14.out).mono ?_); rintro e w' ⟨rfl, ⟨nd, rfl⟩⟩; refine ⟨_, rfl, ?_⟩))
      (try simp only [Act.put, List.setIfInBounds_toArray, List.set_cons_zero, List.set_cons_succ])
      go_cut [9] (fun v9 wc => ∃ (kq : Nat) (x9_14 : Bool), v9 = .bool x9_14 ∧ Aside0 (octavolaw05_NumPairs.j1 kq a0 a1 x9_14 = some r) ∧ Aside0 (kq ≤ kj7) ∧ Aside0 (Below w.heap.size w wc))
      case first =>
        have H := HC15.out
        clear HC15
        by_cases c17 : x9_7 = true
        · subst c17
          have H1 : ((octavolaw05_same.f t253 t254 t255 t256).bind fun t257 => (octavolaw05_NumPairs.j1 kj7 a0 a1 t257)) = some r := by rw [if_pos rfl] at H; exact H
          clear H
          have H := H1
          clear H1
          replace H := Option.bind_eq_some_iff.mp H
          obtain ⟨t257, A180, H⟩ := H
          replace H : (octavolaw05_NumPairs.j1 kj7 a0 a1 t257) = some r := H
          have A18 := Aside0.mk A180
          clear A180
          have H' := Aside0.mk H
          clear H
          go_wp2_with (first | (go_at_call 23; (with_reducible refine (octavolaw05_same.calls t253 t254 t255 t256 t257 _ A18.out).mono ?_); rintro e w' ⟨rfl, ⟨nd, rfl⟩⟩))
          go_meet
          case rel => exact ⟨_, (t257), (by first | rfl | (simp; done) | (simp [*]; done)), H', ⟨by have := HJ7.out; first | omega | exact Nat.le_refl _⟩, ⟨by repeat (first | (with_reducible first | exact HB.out | apply below_alloc | apply pw_below_drewN | apply below_drew1) | exact HB.out)⟩⟩
        · replace c17 := Bool.eq_false_iff.mpr c17
          subst c17
          have H1 : (octavolaw05_NumPairs.j1 kj7 a0 a1 false) = some r := by rw [if_neg (show ¬ (false = true) by decide)] at H; exact H
          clear H
          have H := H1
          clear H1
          have H' := Aside0.mk H
          clear H
          go_wp2
          go_meet
          case rel => exact ⟨_, (false), (by first | rfl | (simp; done) | (simp [*]; done)), H', ⟨by have := HJ7.out; first | omega | exact Nat.le_refl _⟩, ⟨by repeat (first | (with_reducible first | exact HB.out | apply below_alloc | apply pw_below_drewN | apply below_drew1) | exact HB.out)⟩⟩
      case rest =>
        clear HC15
        try clear c1
        try clear c2
        try clear p2
        try clear c3
        try clear c9
        try clear c11
        try clear c17
        try clear p2
        obtain ⟨kq, x9_14, rfl, HA, HJ14, HB⟩ := hcut
        cases kq with
        | zero => exact absurd HA.out (by simp [octavolaw05_NumPairs.j1])
        | succ kj14 =>
          have H := HA.out
          clear HA
          simp only [octavolaw05_NumPairs.j1] at H
          replace H := Option.bind_eq_some_iff.mp H
          obtain ⟨⟨t258, t259⟩, A190, H⟩ := H
          replace H : ((octavoref05_Div.f kj14 a0 a1).bind fun bt260 => (if x9_14 = true then ((octavolaw05_same.f t258 t259 bt260.1 bt260.2).bind fun t262 => (octavolaw05_NumPairs.j2 kj14 a0 a1 t262)) else (octavolaw05_NumPairs.j2 kj14 a0 a1 false))) = some r := H
          have A19 := Aside0.mk A190
          clear A190
          replace H := Option.bind_eq_some_iff.mp H
          obtain ⟨⟨t260, t261⟩, A200, H⟩ := H
          replace H : (if x9_14 = true then ((octavolaw05_same.f t258 t259 t260 t261).bind fun t262 => (octavolaw05_NumPairs.j2 kj14 a0 a1 t262)) else (octavolaw05_NumPairs.j2 kj14 a0 a1 false)) = some r := H
          have A20 := Aside0.mk A200
          clear A200
          have HC21 := Aside0.mk H
          clear H
          go_upto_region 12 with (first | ((with_reducible refine gate_callee (f := 18) rfl ?_); refine goesL_ (some 70) rfl rfl Tryd.func18 (by kernel_rfl) rfl #[.int .i64 a0, .int .i64 a1] rfl (by (try simp only [List.map_toArray, List.map_cons, List.map_nil]); first | done | rfl | (simp only [List.length_drop, List.length_take]; rfl)) ?_; (with_reducible refine (num_Div.calls kj14 a0 a1 t258 t259 _ A19.out).mono ?_); rintro e w22 ⟨rfl, hb⟩; refine ⟨_, rfl, ?_⟩; have n0_ := Aside0.mk (below_step (by repeat (first | (with_reducible first | exact HB.out | apply below_alloc | apply pw_below_drewN | apply below_drew1) | exact HB.out)) hb); clear HB; have HB := n0_; clear n0_; (try clear hb); (try clear hb2); (try clear hk); (try clear hi)) | ((with_reducible refine gate_callee (f := 36) rfl ?_); refine goesL_ (some 76) rfl rfl Tryd.func36 (by kernel_rfl) rfl #[.int .i64 a0, .int .i64 a1] rfl (by (try simp only [List.map_toArray, List.map_cons, List.map_nil]); first | done | rfl | (simp only [List.length_drop, List.length_take]; rfl)) ?_; (with_reducible refine (octavoref05_Div.calls kj14 a0 a1 t260 t261 _ A20.out).mono ?_); rintro e w' ⟨rfl, ⟨nd, rfl⟩⟩; refine ⟨_, rfl, ?_⟩))
          (try simp only [Act.put, List.setIfInBounds_toArray, List.set_cons_zero, List.set_cons_succ])
          go_cut [9] (fun v9 wc => ∃ (kq : Nat) (x9_20 : Bool), v9 = .bool x9_20 ∧ Aside0 (octavolaw05_NumPairs.j2 kq a0 a1 x9_20 = some r) ∧ Aside0 (kq ≤ kj14) ∧ Aside0 (Below w.heap.size w wc))
          case first =>
            have H := HC21.out
            clear HC21
            by_cases c23 : x9_14 = true
            · subst c23
              have H1 : ((octavolaw05_same.f t258 t259 t260 t261).bind fun t262 => (octavolaw05_NumPairs.j2 kj14 a0 a1 t262)) = some r := by rw [if_pos rfl] at H; exact H
              clear H
              have H := H1
              clear H1
              replace H := Option.bind_eq_some_iff.mp H
              obtain ⟨t262, A240, H⟩ := H
              replace H : (octavolaw05_NumPairs.j2 kj14 a0 a1 t262) = some r := H
              have A24 := Aside0.mk A240
              clear A240
              have H' := Aside0.mk H
              clear H
              go_wp2_with (first | (go_at_call 23; (with_reducible refine (octavolaw05_same.calls t258 t259 t260 t261 t262 _ A24.out).mono ?_); rintro e w' ⟨rfl, ⟨nd, rfl⟩⟩))
              go_meet
              case rel => exact ⟨_, (t262), (by first | rfl | (simp; done) | (simp [*]; done)), H', ⟨by have := HJ7.out; have := HJ14.out; first | omega | exact Nat.le_refl _⟩, ⟨by repeat (first | (with_reducible first | exact HB.out | apply below_alloc | apply pw_below_drewN | apply below_drew1) | exact HB.out)⟩⟩
            · replace c23 := Bool.eq_false_iff.mpr c23
              subst c23
              have H1 : (octavolaw05_NumPairs.j2 kj14 a0 a1 false) = some r := by rw [if_neg (show ¬ (false = true) by decide)] at H; exact H
              clear H
              have H := H1
              clear H1
              have H' := Aside0.mk H
              clear H
              go_wp2
              go_meet
              case rel => exact ⟨_, (false), (by first | rfl | (simp; done) | (simp [*]; done)), H', ⟨by have := HJ7.out; have := HJ14.out; first | omega | exact Nat.le_refl _⟩, ⟨by repeat (first | (with_reducible first | exact HB.out | apply below_alloc | apply pw_below_drewN | apply below_drew1) | exact HB.out)⟩⟩
          case rest =>
            clear HC21
            try clear c1
            try clear c2
            try clear p2
            try clear c3
            try clear c9
            try clear c11
            try clear c17
            try clear c18
            try clear c23
            try clear p2
            obtain ⟨kq, x9_20, rfl, HA, HJ20, HB⟩ := hcut
            cases kq with
            | zero => exact absurd HA.out (by simp [octavolaw05_NumPairs.j2])
            | succ kj20 =>
              have H := HA.out
              clear HA
              simp only [octavolaw05_NumPairs.j2] at H
              replace H := Option.bind_eq_some_iff.mp H
              obtain ⟨⟨t263, t264⟩, A250, H⟩ := H
              replace H : ((octavoref05_Pow.f kj20 a0 a1).bind fun bt265 => (if x9_20 = true then ((octavolaw05_same.f t263 t264 bt265.1 bt265.2).bind fun t267 => (octavolaw05_NumPairs.j3 kj20 a0 a1 t267)) else (octavolaw05_NumPairs.j3 kj20 a0 a1 false))) = some r := H
              have A25 := Aside0.mk A250
              clear A250
              replace H := Option.bind_eq_some_iff.mp H
              obtain ⟨⟨t265, t266⟩, A260, H⟩ := H
              replace H : (if x9_20 = true then ((octavolaw05_same.f t263 t264 t265 t266).bind fun t267 => (octavolaw05_NumPairs.j3 kj20 a0 a1 t267)) else (octavolaw05_NumPairs.j3 kj20 a0 a1 false)) = some r := H
              have A26 := Aside0.mk A260
              clear A260
              have HC27 := Aside0.mk H
              clear H
              go_upto_region 15 with (first | ((with_reducible refine gate_callee (f := 21) rfl ?_); refine goesL_ (some 90) rfl rfl Tryd.func21 (by kernel_rfl) rfl #[.int .i64 a0, .int .i64 a1] rfl (by (try simp only [List.map_toArray, List.map_cons, List.map_nil]); first | done | rfl | (simp only [List.length_drop, List.length_take]; rfl)) ?_; (with_reducible refine (num_Pow.calls kj20 a0 a1 t263 t264 _ A25.out).mono ?_); rintro e w28 ⟨rfl, hb⟩; refine ⟨_, rfl, ?_⟩; have n0_ := Aside0.mk (below_step (by repeat (first | (with_reducible first | exact HB.out | apply below_alloc | apply pw_below_drewN | apply below_drew1) | exact HB.out)) hb); clear HB; have HB := n0_; clear n0_; (try clear hb); (try clear hb2); (try clear hk); (try clear hi)) | ((with_reducible refine gate_callee (f := 37) rfl ?_); refine goesL_ (some 96) rfl rfl Tryd.func37 (by kernel_rfl) rfl #[.int .i64 a0, .int .i64 a1] rfl (by (try simp only [List.map_toArray, List.map_cons, List.map_nil]); first | done | rfl | (simp only [List.length_drop, List.length_take]; rfl)) ?_; (with_reducible refine (octavoref05_Pow.calls kj20 a0 a1 t265 t266 _ A26.out).mono ?_); rintro e w' ⟨rfl, ⟨nd, rfl⟩⟩; refine ⟨_, rfl, ?_⟩))
              (try simp only [Act.put, List.setIfInBounds_toArray, List.set_cons_zero, List.set_cons_succ])
              go_cut [9] (fun v9 wc => ∃ (kq : Nat) (x9_26 : Bool), v9 = .bool x9_26 ∧ Aside0 (octavolaw05_NumPairs.j3 kq a0 a1 x9_26 = some r) ∧ Aside0 (kq ≤ kj20) ∧ Aside0 (Below w.heap.size w wc))
              case first =>
                have H := HC27.out
                clear HC27
                by_cases c29 : x9_20 = true
                · subst c29
                  have H1 : ((octavolaw05_same.f t263 t264 t265 t266).bind fun t267 => (octavolaw05_NumPairs.j3 kj20 a0 a1 t267)) = some r := by rw [if_pos rfl] at H; exact H
                  clear H
                  have H := H1
                  clear H1
                  replace H := Option.bind_eq_some_iff.mp H
                  obtain ⟨t267, A300, H⟩ := H
                  replace H : (octavolaw05_NumPairs.j3 kj20 a0 a1 t267) = some r := H
                  have A30 := Aside0.mk A300
                  clear A300
                  have H' := Aside0.mk H
                  clear H
                  go_wp2_with (first | (go_at_call 23; (with_reducible refine (octavolaw05_same.calls t263 t264 t265 t266 t267 _ A30.out).mono ?_); rintro e w' ⟨rfl, ⟨nd, rfl⟩⟩))
                  go_meet
                  case rel => exact ⟨_, (t267), (by first | rfl | (simp; done) | (simp [*]; done)), H', ⟨by have := HJ7.out; have := HJ14.out; have := HJ20.out; first | omega | exact Nat.le_refl _⟩, ⟨by repeat (first | (with_reducible first | exact HB.out | apply below_alloc | apply pw_below_drewN | apply below_drew1) | exact HB.out)⟩⟩
                · replace c29 := Bool.eq_false_iff.mpr c29
                  subst c29
                  have H1 : (octavolaw05_NumPairs.j3 kj20 a0 a1 false) = some r := by rw [if_neg (show ¬ (false = true) by decide)] at H; exact H
                  clear H
                  have H := H1
                  clear H1
                  have H' := Aside0.mk H
                  clear H
                  go_wp2
                  go_meet
                  case rel => exact ⟨_, (false), (by first | rfl | (simp; done) | (simp [*]; done)), H', ⟨by have := HJ7.out; have := HJ14.out; have := HJ20.out; first | omega | exact Nat.le_refl _⟩, ⟨by repeat (first | (with_reducible first | exact HB.out | apply below_alloc | apply pw_below_drewN | apply below_drew1) | exact HB.out)⟩⟩
              case rest =>
                clear HC27
                try clear c1
                try clear c2
                try clear p2
                try clear c3
                try clear c9
                try clear c11
                try clear c17
                try clear c18
                try clear c21
                try clear c23
                try clear c29
                try clear c30
                try clear p2
                obtain ⟨kq, x9_26, rfl, HA, HJ26, HB⟩ := hcut
                cases kq with
                | zero => exact absurd HA.out (by simp [octavolaw05_NumPairs.j3])
                | succ kj26 =>
                  have H := HA.out
                  clear HA
                  simp only [octavolaw05_NumPairs.j3] at H
                  replace H := Option.bind_eq_some_iff.mp H
                  obtain ⟨⟨t268, t269⟩, A310, H⟩ := H
                  replace H : ((octavoref05_Mod.f kj26 a0 a1).bind fun bt270 => (if x9_26 = true then ((octavolaw05_same.f t268 t269 bt270.1 bt270.2).bind fun t272 => (octavolaw05_NumPairs.j4 kj26 a0 a1 t272)) else (octavolaw05_NumPairs.j4 kj26 a0 a1 false))) = some r := H
                  have A31 := Aside0.mk A310
                  clear A310
                  replace H := Option.bind_eq_some_iff.mp H
                  obtain ⟨⟨t270, t271⟩, A320, H⟩ := H
                  replace H : (if x9_26 = true then ((octavolaw05_same.f t268 t269 t270 t271).bind fun t272 => (octavolaw05_NumPairs.j4 kj26 a0 a1 t272)) else (octavolaw05_NumPairs.j4 kj26 a0 a1 false)) = some r := H
                  have A32 := Aside0.mk A320
                  clear A320
                  have HC33 := Aside0.mk H
                  clear H
                  go_upto_region 18 with (first | ((with_reducible refine gate_callee (f := 32) rfl ?_); refine goesL_ (some 110) rfl rfl Tryd.func32 (by kernel_rfl) rfl #[.int .i64 a0, .int .i64 a1] rfl (by (try simp only [List.map_toArray, List.map_cons, List.map_nil]); first | done | rfl | (simp only [List.length_drop, List.length_take]; rfl)) ?_; (with_reducible refine (num_Mod.calls kj26 a0 a1 t268 t269 _ A31.out).mono ?_); rintro e w34 ⟨rfl, hb⟩; refine ⟨_, rfl, ?_⟩; have n0_ := Aside0.mk (below_step (by repeat (first | (with_reducible first | exact HB.out | apply below_alloc | apply pw_below_drewN | apply below_drew1) | exact HB.out)) hb); clear HB; have HB := n0_; clear n0_; (try clear hb); (try clear hb2); (try clear hk); (try clear hi)) | ((with_reducible refine gate_callee (f := 38) rfl ?_); refine goesL_ (some 116) rfl rfl Tryd.func38 (by kernel_rfl) rfl #[.int .i64 a0, .int .i64 a1] rfl (by (try simp only [List.map_toArray, List.map_cons, List.map_nil]); first | done | rfl | (simp only [List.length_drop, List.length_take]; rfl)) ?_; (with_reducible refine (octavoref05_Mod.calls kj26 a0 a1 t270 t271 _ A32.out).mono ?_); rintro e w' ⟨rfl, ⟨nd, rfl⟩⟩; refine ⟨_, rfl, ?_⟩))
                  (try simp only [Act.put, List.setIfInBounds_toArray, List.set_cons_zero, List.set_cons_succ])
                  go_cut [9] (fun v9 wc => ∃ (kq : Nat) (x9_32 : Bool), v9 = .bool x9_32 ∧ Aside0 (octavolaw05_NumPairs.j4 kq a0 a1 x9_32 = some r) ∧ Aside0 (kq ≤ kj26) ∧ Aside0 (Below w.heap.size w wc))
                  case first =>
                    have H := HC33.out
                    clear HC33
                    by_cases c35 : x9_26 = true
                    · subst c35
                      have H1 : ((octavolaw05_same.f t268 t269 t270 t271).bind fun t272 => (octavolaw05_NumPairs.j4 kj26 a0 a1 t272)) = some r := by rw [if_pos rfl] at H; exact H
                      clear H
                      have H := H1
                      clear H1
                      replace H := Option.bind_eq_some_iff.mp H
                      obtain ⟨t272, A360, H⟩ := H
                      replace H : (octavolaw05_NumPairs.j4 kj26 a0 a1 t272) = some r := H
                      have A36 := Aside0.mk A360
                      clear A360
                      have H' := Aside0.mk H
                      clear H
                      go_wp2_with (first | (go_at_call 23; (with_reducible refine (octavolaw05_same.calls t268 t269 t270 t271 t272 _ A36.out).mono ?_); rintro e w' ⟨rfl, ⟨nd, rfl⟩⟩))
                      go_meet
                      case rel => exact ⟨_, (t272), (by first | rfl | (simp; done) | (simp [*]; done)), H', ⟨by have := HJ7.out; have := HJ14.out; have := HJ20.out; have := HJ26.out; first | omega | exact Nat.le_refl _⟩, ⟨by repeat (first | (with_reducible first | exact HB.out | apply below_alloc | apply pw_below_drewN | apply below_drew1) | exact HB.out)⟩⟩
                    · replace c35 := Bool.eq_false_iff.mpr c35
                      subst c35
                      have H1 : (octavolaw05_NumPairs.j4 kj26 a0 a1 false) = some r := by rw [if_neg (show ¬ (false = true) by decide)] at H; exact H
                      clear H
                      have H := H1
                      clear H1
                      have H' := Aside0.mk H
                      clear H
                      go_wp2
                      go_meet
                      case rel => exact ⟨_, (false), (by first | rfl | (simp; done) | (simp [*]; done)), H', ⟨by have := HJ7.out; have := HJ14.out; have := HJ20.out; have := HJ26.out; first | omega | exact Nat.le_refl _⟩, ⟨by repeat (first | (with_reducible first | exact HB.out | apply below_alloc | apply pw_below_drewN | apply below_drew1) | exact HB.out)⟩⟩
                  case rest =>
                    clear HC33
                    try clear c1
                    try clear c2
                    try clear p2
                    try clear c3
                    try clear c9
                    try clear c11
                    try clear c17
                    try clear c18
                    try clear c21
                    try clear c23
                    try clear c29
                    try clear c30
                    try clear c31
                    try clear c32
                    try clear c33
                    try clear c34
                    try clear c35
                    try clear c36
                    try clear p2
                    obtain ⟨kq, x9_32, rfl, HA, HJ32, HB⟩ := hcut
                    cases kq with
                    | zero => exact absurd HA.out (by simp [octavolaw05_NumPairs.j4])
                    | succ kj32 =>
                      have H := HA.out
                      clear HA
                      simp only [octavolaw05_NumPairs.j4] at H
                      replace H := Option.bind_eq_some_iff.mp H
                      obtain ⟨⟨t273, t274⟩, A370, H⟩ := H
                      replace H : ((octavoref05_Quo.f a0 a1).bind fun bt275 => (if x9_32 = true then ((octavolaw05_same.f t273 t274 bt275.1 bt275.2).bind fun t277 => (octavolaw05_NumPairs.j5 kj32 a0 a1 t277)) else (octavolaw05_NumPairs.j5 kj32 a0 a1 false))) = some r := H
                      have A37 := Aside0.mk A370
                      clear A370
                      replace H := Option.bind_eq_some_iff.mp H
                      obtain ⟨⟨t275, t276⟩, A380, H⟩ := H
                      replace H : (if x9_32 = true then ((octavolaw05_same.f t273 t274 t275 t276).bind fun t277 => (octavolaw05_NumPairs.j5 kj32 a0 a1 t277)) else (octavolaw05_NumPairs.j5 kj32 a0 a1 false)) = some r := H
                      have A38 := Aside0.mk A380
                      clear A380
                      have HC39 := Aside0.mk H
                      clear H
                      go_upto_region 21 with (first | ((with_reducible refine gate_callee (f := 19) rfl ?_); refine goesL_ (some 130) rfl rfl Tryd.func19 (by kernel_rfl) rfl #[.int .i64 a0, .int .i64 a1] rfl (by (try simp only [List.map_toArray, List.map_cons, List.map_nil]); first | done | rfl | (simp only [List.length_drop, List.length_take]; rfl)) ?_; (with_reducible refine (num_Quo.calls kj32 a0 a1 t273 t274 _ A37.out).mono ?_); rintro e w40 ⟨rfl, hb⟩; refine ⟨_, rfl, ?_⟩; have n0_ := Aside0.mk (below_step (by repeat (first | (with_reducible first | exact HB.out | apply below_alloc | apply pw_below_drewN | apply below_drew1) | exact HB.out)) hb); clear HB; have HB := n0_; clear n0_; (try clear hb); (try clear hb2); (try clear hk); (try clear hi)) | ((with_reducible refine gate_callee (f := 39) rfl ?_); refine goesL_ (some 136) rfl rfl Tryd.func39 (by kernel_rfl) rfl #[.int .i64 a0, .int .i64 a1] rfl (by (try simp only [List.map_toArray, List.map_cons, List.map_nil]); first | done | rfl | (simp only [List.length_drop, List.length_take]; rfl)) ?_; (with_reducible refine (octavoref05_Quo.calls a0 a1 t275 t276 _ A38.out).mono ?_); rintro e w' ⟨rfl, ⟨nd, rfl⟩⟩; refine ⟨_, rfl, ?_⟩))
                      (try simp only [Act.put, List.setIfInBounds_toArray, List.set_cons_zero, List.set_cons_succ])
                      go_cut [9] (fun v9 wc => ∃ (kq : Nat) (x9_38 : Bool), v9 = .bool x9_38 ∧ Aside0 (octavolaw05_NumPairs.j5 kq a0 a1 x9_38 = some r) ∧ Aside0 (kq ≤ kj32) ∧ Aside0 (Below w.heap.size w wc))
                      case first =>
                        have H := HC39.out
                        clear HC39
                        by_cases c41 : x9_32 = true
                        · subst c41
                          have H1 : ((octavolaw05_same.f t273 t274 t275 t276).bind fun t277 => (octavolaw05_NumPairs.j5 kj32 a0 a1 t277)) = some r := by rw [if_pos rfl] at H; exact H
                          clear H
                          have H := H1
                          clear H1
                          replace H := Option.bind_eq_some_iff.mp H
                          obtain ⟨t277, A420, H⟩ := H
                          replace H : (octavolaw05_NumPairs.j5 kj32 a0 a1 t277) = some r := H
                          have A42 := Aside0.mk A420
                          clear A420
                          have H' := Aside0.mk H
                          clear H
                          go_wp2_with (first | (go_at_call 23; (with_reducible refine (octavolaw05_same.calls t273 t274 t275 t276 t277 _ A42.out).mono ?_); rintro e w' ⟨rfl, ⟨nd, rfl⟩⟩))
                          go_meet
                          case rel => exact ⟨_, (t277), (by first | rfl | (simp; done) | (simp [*]; done)), H', ⟨by have := HJ7.out; have := HJ14.out; have := HJ20.out; have := HJ26.out; have := HJ32.out; first | omega | exact Nat.le_refl _⟩, ⟨by repeat (first | (with_reducible first | exact HB.out | apply below_alloc | apply pw_below_drewN | apply below_drew1) | exact HB.out)⟩⟩
                        · replace c41 := Bool.eq_false_iff.mpr c41
                          subst c41
                          have H1 : (octavolaw05_NumPairs.j5 kj32 a0 a1 false) = some r := by rw [if_neg (show ¬ (false = true) by decide)] at H; exact H
                          clear H
                          have H := H1
                          clear H1
                          have H' := Aside0.mk H
                          clear H
                          go_wp2
                          go_meet
                          case rel => exact ⟨_, (false), (by first | rfl | (simp; done) | (simp [*]; done)), H', ⟨by have := HJ7.out; have := HJ14.out; have := HJ20.out; have := HJ26.out; have := HJ32.out; first | omega | exact Nat.le_refl _⟩, ⟨by repeat (first | (with_reducible first | exact HB.out | apply below_alloc | apply pw_below_drewN | apply below_drew1) | exact HB.out)⟩⟩
                      case rest =>
                        clear HC39
                        try clear c1
                        try clear c2
                        try clear p2
                        try clear c3
                        try clear c4
                        try clear c9
                        try clear c11
                        try clear c17
                        try clear c18
                        try clear c19
                        try clear c21
                        try clear c23
                        try clear c29
                        try clear c30
                        try clear c31
                        try clear c32
                        try clear c33
                        try clear c34
                        try clear c35
                        try clear c36
                        try clear c37
                        try clear c38
                        try clear c39
                        try clear c41
                        try clear p2
                        obtain ⟨kq, x9_38, rfl, HA, HJ38, HB⟩ := hcut
                        cases kq with
                        | zero => exact absurd HA.out (by simp [octavolaw05_NumPairs.j5])
                        | succ kj38 =>
                          have H := HA.out
                          clear HA
                          simp only [octavolaw05_NumPairs.j5] at H
                          replace H := Option.bind_eq_some_iff.mp H
                          obtain ⟨⟨t278, t279⟩, A430, H⟩ := H
                          replace H : ((octavoref05_Comb.f kj38 a0 a1).bind fun bt280 => (if x9_38 = true then ((octavolaw05_same.f t278 t279 bt280.1 bt280.2).bind fun t282 => (if t282 = true then ((num_Gcd.f kj38 a0 a1).bind fun t283 => ((octavoref05_Gcd.f kj38 a0 a1).bind fun t284 => (if t283 = t284 then ((octavolaw05_lives.f kj38).bind fun t285 => (some t285)) else (some false)))) else (some false))) else (some false))) = some r := H
                          have A43 := Aside0.mk A430
                          clear A430
                          replace H := Option.bind_eq_some_iff.mp H
                          obtain ⟨⟨t280, t281⟩, A440, H⟩ := H
                          replace H : (if x9_38 = true then ((octavolaw05_same.f t278 t279 t280 t281).bind fun t282 => (if t282 = true then ((num_Gcd.f kj38 a0 a1).bind fun t283 => ((octavoref05_Gcd.f kj38 a0 a1).bind fun t284 => (if t283 = t284 then ((octavolaw05_lives.f kj38).bind fun t285 => (some t285)) else (some false)))) else (some false))) else (some false)) = some r := H
                          have A44 := Aside0.mk A440
                          clear A440
                          by_cases c45 : x9_38 = true
                          · subst c45
                            have H1 : ((octavolaw05_same.f t278 t279 t280 t281).bind fun t282 => (if t282 = true then ((num_Gcd.f kj38 a0 a1).bind fun t283 => ((octavoref05_Gcd.f kj38 a0 a1).bind fun t284 => (if t283 = t284 then ((octavolaw05_lives.f kj38).bind fun t285 => (some t285)) else (some false)))) else (some false))) = some r := by rw [if_pos rfl] at H; exact H
                            clear H
                            have H := H1
                            clear H1
                            replace H := Option.bind_eq_some_iff.mp H
                            obtain ⟨t282, A460, H⟩ := H
                            replace H : (if t282 = true then ((num_Gcd.f kj38 a0 a1).bind fun t283 => ((octavoref05_Gcd.f kj38 a0 a1).bind fun t284 => (if t283 = t284 then ((octavolaw05_lives.f kj38).bind fun t285 => (some t285)) else (some false)))) else (some false)) = some r := H
                            have A46 := Aside0.mk A460
                            clear A460
                            by_cases c47 : t282 = true
                            · subst c47
                              have H1 : ((num_Gcd.f kj38 a0 a1).bind fun t283 => ((octavoref05_Gcd.f kj38 a0 a1).bind fun t284 => (if t283 = t284 then ((octavolaw05_lives.f kj38).bind fun t285 => (some t285)) else (some false)))) = some r := by rw [if_pos rfl] at H; exact H
                              clear H
                              have H := H1
                              clear H1
                              replace H := Option.bind_eq_some_iff.mp H
                              obtain ⟨t283, A480, H⟩ := H
                              replace H : ((octavoref05_Gcd.f kj38 a0 a1).bind fun t284 => (if t283 = t284 then ((octavolaw05_lives.f kj38).bind fun t285 => (some t285)) else (some false))) = some r := H
                              have A48 := Aside0.mk A480
                              clear A480
                              replace H := Option.bind_eq_some_iff.mp H
                              obtain ⟨t284, A490, H⟩ := H
                              replace H : (if t283 = t284 then ((octavolaw05_lives.f kj38).bind fun t285 => (some t285)) else (some false)) = some r := H
                              have A49 := Aside0.mk A490
                              clear A490
                              by_cases c50 : t283 = t284
                              · rw [if_pos c50] at H
                                have c50b0 : (t283 == t284) = true := beq_iff_eq.mpr c50
                                have c50b1 : (t283 != t284) = false := bne_eq_false_iff_eq.mpr c50
                                clear c50
                                replace H := Option.bind_eq_some_iff.mp H
                                obtain ⟨t285, A510, H⟩ := H
                                replace H : (some t285) = some r := H
                                have A51 := Aside0.mk A510
                                clear A510
                                obtain rfl := Option.some.inj H
                                go_wp2_with (first | ((with_reducible refine gate_callee (f := 40) rfl ?_); refine goesL_ (some 150) rfl rfl Tryd.func40 (by kernel_rfl) rfl #[.int .i64 a0, .int .i64 a1] rfl (by (try simp only [List.map_toArray, List.map_cons, List.map_nil]); first | done | rfl | (simp only [List.length_drop, List.length_take]; rfl)) ?_; (with_reducible refine (num_Comb.calls kj38 a0 a1 t278 t279 _ A43.out).mono ?_); rintro e w52 ⟨rfl, hb⟩; refine ⟨_, rfl, ?_⟩; have n0_ := Aside0.mk (below_step (by repeat (first | (with_reducible first | exact HB.out | apply below_alloc | apply pw_below_drewN | apply below_drew1) | exact HB.out)) hb); clear HB; have HB := n0_; clear n0_; (try clear hb); (try clear hb2); (try clear hk); (try clear hi)) | ((with_reducible refine gate_callee (f := 41) rfl ?_); refine goesL_ (some 156) rfl rfl Tryd.func41 (by kernel_rfl) rfl #[.int .i64 a0, .int .i64 a1] rfl (by (try simp only [List.map_toArray, List.map_cons, List.map_nil]); first | done | rfl | (simp only [List.length_drop, List.length_take]; rfl)) ?_; (with_reducible refine (octavoref05_Comb.calls kj38 a0 a1 t280 t281 _ A44.out).mono ?_); rintro e w' ⟨rfl, ⟨nd, rfl⟩⟩; refine ⟨_, rfl, ?_⟩) | (go_at_call 23; (with_reducible refine (octavolaw05_same.calls t278 t279 t280 t281 true _ A46.out).mono ?_); rintro e w' ⟨rfl, ⟨nd, rfl⟩⟩) | (go_at_call 42; (with_reducible refine (num_Gcd.calls kj38 a0 a1 t283 _ A48.out).mono ?_); rintro e w53 ⟨rfl, hb⟩; have n0_ := Aside0.mk (below_step (by repeat (first | (with_reducible first | exact HB.out | apply below_alloc | apply pw_below_drewN | apply below_drew1) | exact HB.out)) hb); clear HB; have HB := n0_; clear n0_; (try clear hb); (try clear hb2); (try clear hk); (try clear hi)) | (go_at_call 43; (with_reducible refine (octavoref05_Gcd.calls kj38 a0 a1 t284 _ A49.out).mono ?_); rintro e w' ⟨rfl, ⟨nd, rfl⟩⟩) | (go_at_call 16; (with_reducible refine (octavolaw05_lives.calls kj38  t285 _ A51.out).mono ?_); rintro e w54 ⟨rfl, hb⟩; have n0_ := Aside0.mk (below_step (by repeat (first | (with_reducible first | exact HB.out | apply below_alloc | apply pw_below_drewN | apply below_drew1) | exact HB.out)) hb); clear HB; have HB := n0_; clear n0_; (try clear hb); (try clear hb2); (try clear hk); (try clear hi)))
                                go_ret
                                exact ⟨by first | rfl | (simp [errW_none, errW_some] <;> rfl) | (simp [*, errW_none, errW_some] <;> rfl), by repeat (first | (with_reducible first | exact HB.out | apply below_alloc | apply pw_below_drewN | apply below_drew1) | exact HB.out)⟩
                              · rw [if_neg c50] at H
                                have c50b0 : (t283 == t284) = false := beq_eq_false_iff_ne.mpr c50
                                have c50b1 : (t283 != t284) = true := bne_iff_ne.mpr c50
                                obtain rfl := Option.some.inj H
                                go_wp2_with (first | ((with_reducible refine gate_callee (f := 40) rfl ?_); refine goesL_ (some 150) rfl rfl Tryd.func40 (by kernel_rfl) rfl #[.int .i64 a0, .int .i64 a1] rfl (by (try simp only [List.map_toArray, List.map_cons, List.map_nil]); first | done | rfl | (simp only [List.length_drop, List.length_take]; rfl)) ?_; (with_reducible refine (num_Comb.calls kj38 a0 a1 t278 t279 _ A43.out).mono ?_); rintro e w55 ⟨rfl, hb⟩; refine ⟨_, rfl, ?_⟩; have n0_ := Aside0.mk (below_step (by repeat (first | (with_reducible first | exact HB.out | apply below_alloc | apply pw_below_drewN | apply below_drew1) | exact HB.out)) hb); clear HB; have HB := n0_; clear n0_; (try clear hb); (try clear hb2); (try clear hk); (try clear hi)) | ((with_reducible refine gate_callee (f := 41) rfl ?_); refine goesL_ (some 156) rfl rfl Tryd.func41 (by kernel_rfl) rfl #[.int .i64 a0, .int .i64 a1] rfl (by (try simp only [List.map_toArray, List.map_cons, List.map_nil]); first | done | rfl | (simp only [List.length_drop, List.length_take]; rfl)) ?_; (with_reducible refine (octavoref05_Comb.calls kj38 a0 a1 t280 t281 _ A44.out).mono ?_); rintro e w' ⟨rfl, ⟨nd, rfl⟩⟩; refine ⟨_, rfl, ?_⟩) | (go_at_call 23; (with_reducible refine (octavolaw05_same.calls t278 t279 t280 t281 true _ A46.out).mono ?_); rintro e w' ⟨rfl, ⟨nd, rfl⟩⟩) | (go_at_call 42; (with_reducible refine (num_Gcd.calls kj38 a0 a1 t283 _ A48.out).mono ?_); rintro e w56 ⟨rfl, hb⟩; have n0_ := Aside0.mk (below_step (by repeat (first | (with_reducible first | exact HB.out | apply below_alloc | apply pw_below_drewN | apply below_drew1) | exact HB.out)) hb); clear HB; have HB := n0_; clear n0_; (try clear hb); (try clear hb2); (try clear hk); (try clear hi)) | (go_at_call 43; (with_reducible refine (octavoref05_Gcd.calls kj38 a0 a1 t284 _ A49.out).mono ?_); rintro e w' ⟨rfl, ⟨nd, rfl⟩⟩))
                                go_ret
                                exact ⟨by first | rfl | (simp [errW_none, errW_some] <;> rfl) | (simp [*, errW_none, errW_some] <;> rfl), by repeat (first | (with_reducible first | exact HB.out | apply below_alloc | apply pw_below_drewN | apply below_drew1) | exact HB.out)⟩
                            · replace c47 := Bool.eq_false_iff.mpr c47
                              subst c47
                              have H1 : (some false) = some r := by rw [if_neg (show ¬ (false = true) by decide)] at H; exact H
                              clear H
                              have H := H1
                              clear H1
                              obtain rfl := Option.some.inj H
                              go_wp2_with (first | ((with_reducible refine gate_callee (f := 40) rfl ?_); refine goesL_ (some 150) rfl rfl Tryd.func40 (by kernel_rfl) rfl #[.int .i64 a0, .int .i64 a1] rfl (by (try simp only [List.map_toArray, List.map_cons, List.map_nil]); first | done | rfl | (simp only [List.length_drop, List.length_take]; rfl)) ?_; (with_reducible refine (num_Comb.calls kj38 a0 a1 t278 t279 _ A43.out).mono ?_); rintro e w57 ⟨rfl, hb⟩; refine ⟨_, rfl, ?_⟩; have n0_ := Aside0.mk (below_step (by repeat (first | (with_reducible first | exact HB.out | apply below_alloc | apply pw_below_drewN | apply below_drew1) | exact HB.out)) hb); clear HB; have HB := n0_; clear n0_; (try clear hb); (try clear hb2); (try clear hk); (try clear hi)) | ((with_reducible refine gate_callee (f := 41) rfl ?_); refine goesL_ (some 156) rfl rfl Tryd.func41 (by kernel_rfl) rfl #[.int .i64 a0, .int .i64 a1] rfl (by (try simp only [List.map_toArray, List.map_cons, List.map_nil]); first | done | rfl | (simp only [List.length_drop, List.length_take]; rfl)) ?_; (with_reducible refine (octavoref05_Comb.calls kj38 a0 a1 t280 t281 _ A44.out).mono ?_); rintro e w' ⟨rfl, ⟨nd, rfl⟩⟩; refine ⟨_, rfl, ?_⟩) | (go_at_call 23; (with_reducible refine (octavolaw05_same.calls t278 t279 t280 t281 false _ A46.out).mono ?_); rintro e w' ⟨rfl, ⟨nd, rfl⟩⟩))
                              go_ret
                              exact ⟨by first | rfl | (simp [errW_none, errW_some] <;> rfl) | (simp [*, errW_none, errW_some] <;> rfl), by repeat (first | (with_reducible first | exact HB.out | apply below_alloc | apply pw_below_drewN | apply below_drew1) | exact HB.out)⟩
                          · replace c45 := Bool.eq_false_iff.mpr c45
                            subst c45
                            have H1 : (some false) = some r := by rw [if_neg (show ¬ (false = true) by decide)] at H; exact H
                            clear H
                            have H := H1
                            clear H1
                            obtain rfl := Option.some.inj H
                            go_wp2_with (first | ((with_reducible refine gate_callee (f := 40) rfl ?_); refine goesL_ (some 150) rfl rfl Tryd.func40 (by kernel_rfl) rfl #[.int .i64 a0, .int .i64 a1] rfl (by (try simp only [List.map_toArray, List.map_cons, List.map_nil]); first | done | rfl | (simp only [List.length_drop, List.length_take]; rfl)) ?_; (with_reducible refine (num_Comb.calls kj38 a0 a1 t278 t279 _ A43.out).mono ?_); rintro e w58 ⟨rfl, hb⟩; refine ⟨_, rfl, ?_⟩; have n0_ := Aside0.mk (below_step (by repeat (first | (with_reducible first | exact HB.out | apply below_alloc | apply pw_below_drewN | apply below_drew1) | exact HB.out)) hb); clear HB; have HB := n0_; clear n0_; (try clear hb); (try clear hb2); (try clear hk); (try clear hi)) | ((with_reducible refine gate_callee (f := 41) rfl ?_); refine goesL_ (some 156) rfl rfl Tryd.func41 (by kernel_rfl) rfl #[.int .i64 a0, .int .i64 a1] rfl (by (try simp only [List.map_toArray, List.map_cons, List.map_nil]); first | done | rfl | (simp only [List.length_drop, List.length_take]; rfl)) ?_; (with_reducible refine (octavoref05_Comb.calls kj38 a0 a1 t280 t281 _ A44.out).mono ?_); rintro e w' ⟨rfl, ⟨nd, rfl⟩⟩; refine ⟨_, rfl, ?_⟩))
                            go_ret
                            exact ⟨by first | rfl | (simp [errW_none, errW_some] <;> rfl) | (simp [*, errW_none, errW_some] <;> rfl), by repeat (first | (with_reducible first | exact HB.out | apply below_alloc | apply pw_below_drewN | apply below_drew1) | exact HB.out)⟩

/-- THE ONE PURE STATEMENT of octavolaw05_NumPairs: yours. -/
def octavolaw05_NumPairs.Pure : Prop := ∀ (a0 : Int) (a1 : Int), (Lit.int .i64 a0).wf = true → (Lit.int .i64 a1).wf = true → ∃ k, octavolaw05_NumPairs.f k a0 a1 = some true
theorem octavolaw05_NumPairs.walk (P : octavolaw05_NumPairs.Pure) (a0 : Int) (a1 : Int) (w : World) (w0 : (Lit.int .i64 a0).wf = true) (w1 : (Lit.int .i64 a1).wf = true) :
    Calls Tryd.prog 9 #[.int .i64 a0, .int .i64 a1] w fun e w' => e = .returned (.bool true) ∧ Below w.heap.size w w' := by
  obtain ⟨k, h⟩ := P a0 a1 w0 w1
  refine (octavolaw05_NumPairs.calls k a0 a1 true w h).mono ?_
  rintro e w' ⟨rfl, hd⟩
  exact ⟨rfl, hd⟩

end Go.Proofs.YtficjmgofbdohaaDoor.P
