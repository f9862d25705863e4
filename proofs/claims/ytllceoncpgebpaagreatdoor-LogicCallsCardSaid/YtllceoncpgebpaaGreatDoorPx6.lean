-- Written by a program of this session (wip/tools/xprint.py), out of the seat's translation. Not trusted: Lean checks it.
import Derived.Test.YtllceoncpgebpaaGreatDoorPx0
import Derived.Test.YtllceoncpgebpaaGreatDoorPx5
namespace Go.Proofs.YtllceoncpgebpaaGreatDoor.P
open Go.RowKit Go.Proofs.YtllceoncpgebpaaGreatDoorW.PrintWords Go.Proofs.YtllceoncpgebpaaGreatDoorW.PrintLast Go.Proofs.YtllceoncpgebpaaGreatDoorW.PrintMore
attribute [local go_sem] max2_int min2_int max_two min_two max_three min_three max_four min_four X.binOp_str_gtr X.binOp_str_leq
set_option linter.unusedVariables false
set_option linter.unusedSimpArgs false
mutual
def octavoref05_Parse.j0 : Nat → ByteArray → Bool → Option (Int × Bool)
 | 0, _, _ => none
 | k + 1, x0, x4 => if x4 = true then (if 1 ≤ (x0.size : Int) then (octavoref05_Parse.j1 k (x0.extract 1 x0.size) x4) else (none)) else (octavoref05_Parse.j1 k x0 x4)
def octavoref05_Parse.j1 : Nat → ByteArray → Bool → Option (Int × Bool)
 | 0, _, _ => none
 | k + 1, x0, x4 => octavoref05_Parse.l0 k x0 x4 x0 (⟨#[]⟩ : ByteArray) false 0
def octavoref05_Parse.j3 : Nat → Bool → ByteArray → ByteArray → Bool → Option (Int × Bool)
 | 0, _, _, _, _ => none
 | k + 1, x4, x5, x6, x7 => (octavoref05_digits.f k x5 1 12).bind fun t171 => (if t171 = true then (if x7 = true then ((octavoref05_digits.f k x6 1 4).bind fun t172 => (octavoref05_Parse.j4 k x4 x5 x6 (!t172))) else (octavoref05_Parse.j4 k x4 x5 x6 false)) else (octavoref05_Parse.j4 k x4 x5 x6 true))
def octavoref05_Parse.j4 : Nat → Bool → ByteArray → ByteArray → Bool → Option (Int × Bool)
 | 0, _, _, _, _ => none
 | k + 1, x4, x5, x6, x51 => if x51 = true then (some (0, false)) else (octavoref05_Parse.l1 k x4 x5 x6)
def octavoref05_Parse.l1 : Nat → Bool → ByteArray → ByteArray → Option (Int × Bool)
 | 0, _, _, _ => none
 | k + 1, x4, x5, x6 => if (x6.size : Int) < 4 then (if x6.size + 1 ≤ 9223372036854775807 then (octavoref05_Parse.l1 k x4 x5 (x6 ++ (⟨#[48]⟩ : ByteArray))) else (none)) else (if x5.size + x6.size ≤ 9223372036854775807 then (octavoref05_Parse.l2 k x4 0 (x5 ++ x6) 0) else (none))
def octavoref05_Parse.l2 : Nat → Bool → Int → ByteArray → Int → Option (Int × Bool)
 | 0, _, _, _, _ => none
 | k + 1, x4, x9, x10, x11 => if x11 < (x10.size : Int) then (if 0 ≤ x11 then (octavoref05_Parse.l2 k x4 (wrap64 ((wrap64 (10 * x9)) + (((bt x10 x11) - 48) % 256))) x10 (wrap64 (x11 + 1))) else (none)) else (if x4 = true then ((octavoref05_out.f (wrap64 (-x9))).bind fun bt173 => (some (bt173.1, bt173.2))) else ((octavoref05_out.f x9).bind fun bt175 => (some (bt175.1, bt175.2))))
def octavoref05_Parse.l0 : Nat → ByteArray → Bool → ByteArray → ByteArray → Bool → Int → Option (Int × Bool)
 | 0, _, _, _, _, _, _ => none
 | k + 1, x0, x4, x5, x6, x7, x8 => if x8 < (x0.size : Int) then (if 0 ≤ x8 then (if (bt x0 x8) = 46 then (if x8 ≤ (x0.size : Int) then (if 0 ≤ (wrap64 (x8 + 1)) then (if (wrap64 (x8 + 1)) ≤ (x0.size : Int) then (octavoref05_Parse.j3 k x4 (x0.extract 0 (x8 : Int).toNat) (x0.extract ((wrap64 (x8 + 1)) : Int).toNat x0.size) true) else (none)) else (none)) else (none)) else (octavoref05_Parse.l0 k x0 x4 x5 x6 x7 (wrap64 (x8 + 1)))) else (none)) else (octavoref05_Parse.j3 k x4 x5 x6 x7)
end
def octavoref05_Parse.f (k : Nat) (a0 : ByteArray) : Option (Int × Bool) := if (a0.size : Int) > 0 then (if 0 < (a0.size : Int) then (octavoref05_Parse.j0 k a0 ((bt a0 0) == 45)) else (none)) else (octavoref05_Parse.j0 k a0 false)
theorem octavoref05_Parse.mono_l : ∀ k, (∀ y0 y1, LeO (octavoref05_Parse.j0 k y0 y1) (octavoref05_Parse.j0 (k + 1) y0 y1)) ∧ (∀ y0 y1, LeO (octavoref05_Parse.j1 k y0 y1) (octavoref05_Parse.j1 (k + 1) y0 y1)) ∧ (∀ y0 y1 y2 y3, LeO (octavoref05_Parse.j3 k y0 y1 y2 y3) (octavoref05_Parse.j3 (k + 1) y0 y1 y2 y3)) ∧ (∀ y0 y1 y2 y3, LeO (octavoref05_Parse.j4 k y0 y1 y2 y3) (octavoref05_Parse.j4 (k + 1) y0 y1 y2 y3)) ∧ (∀ y0 y1 y2, LeO (octavoref05_Parse.l1 k y0 y1 y2) (octavoref05_Parse.l1 (k + 1) y0 y1 y2)) ∧ (∀ y0 y1 y2 y3, LeO (octavoref05_Parse.l2 k y0 y1 y2 y3) (octavoref05_Parse.l2 (k + 1) y0 y1 y2 y3)) ∧ (∀ y0 y1 y2 y3 y4 y5, LeO (octavoref05_Parse.l0 k y0 y1 y2 y3 y4 y5) (octavoref05_Parse.l0 (k + 1) y0 y1 y2 y3 y4 y5))
 | 0 => ⟨fun _ _ r h => by simp [octavoref05_Parse.j0] at h, fun _ _ r h => by simp [octavoref05_Parse.j1] at h, fun _ _ _ _ r h => by simp [octavoref05_Parse.j3] at h, fun _ _ _ _ r h => by simp [octavoref05_Parse.j4] at h, fun _ _ _ r h => by simp [octavoref05_Parse.l1] at h, fun _ _ _ _ r h => by simp [octavoref05_Parse.l2] at h, fun _ _ _ _ _ _ r h => by simp [octavoref05_Parse.l0] at h⟩
 | k + 1 => by
  obtain ⟨ih0, ih1, ih2, ih3, ih4, ih5, ih6⟩ := octavoref05_Parse.mono_l k
  refine ⟨?_, ?_, ?_, ?_, ?_, ?_, ?_⟩
  ·intro y0 y1
   unfold octavoref05_Parse.j0
   repeat' first
   | (with_reducible exact ih0 _ _)
   | (with_reducible exact ih1 _ _)
   | (with_reducible exact ih2 _ _ _ _)
   | (with_reducible exact ih3 _ _ _ _)
   | (with_reducible exact ih4 _ _ _)
   | (with_reducible exact ih5 _ _ _ _)
   | (with_reducible exact ih6 _ _ _ _ _ _)
   | (with_reducible exact octavoref05_digits.mono _ _ _ _)
   | (with_reducible exact LeO.refl _)
   | (with_reducible exact LeO.none _)
   | (with_reducible refine LeO.ite ?_ ?_)
   | (with_reducible refine LeO.bind ?_ (fun _ => ?_))
   | exact ih0 _ _
   | exact ih1 _ _
   | exact ih2 _ _ _ _
   | exact ih3 _ _ _ _
   | exact ih4 _ _ _
   | exact ih5 _ _ _ _
   | exact ih6 _ _ _ _ _ _
   | exact octavoref05_digits.mono _ _ _ _
   | exact LeO.none _
   | refine LeO.ite ?_ ?_
   | refine LeO.bind ?_ (fun _ => ?_)
  ·intro y0 y1
   unfold octavoref05_Parse.j1
   repeat' first
   | (with_reducible exact ih0 _ _)
   | (with_reducible exact ih1 _ _)
   | (with_reducible exact ih2 _ _ _ _)
   | (with_reducible exact ih3 _ _ _ _)
   | (with_reducible exact ih4 _ _ _)
   | (with_reducible exact ih5 _ _ _ _)
   | (with_reducible exact ih6 _ _ _ _ _ _)
   | (with_reducible exact octavoref05_digits.mono _ _ _ _)
   | (with_reducible exact LeO.refl _)
   | (with_reducible exact LeO.none _)
   | (with_reducible refine LeO.ite ?_ ?_)
   | (with_reducible refine LeO.bind ?_ (fun _ => ?_))
   | exact ih0 _ _
   | exact ih1 _ _
   | exact ih2 _ _ _ _
   | exact ih3 _ _ _ _
   | exact ih4 _ _ _
   | exact ih5 _ _ _ _
   | exact ih6 _ _ _ _ _ _
   | exact octavoref05_digits.mono _ _ _ _
   | exact LeO.none _
   | refine LeO.ite ?_ ?_
   | refine LeO.bind ?_ (fun _ => ?_)
  ·intro y0 y1 y2 y3
   unfold octavoref05_Parse.j3
   repeat' first
   | (with_reducible exact ih0 _ _)
   | (with_reducible exact ih1 _ _)
   | (with_reducible exact ih2 _ _ _ _)
   | (with_reducible exact ih3 _ _ _ _)
   | (with_reducible exact ih4 _ _ _)
   | (with_reducible exact ih5 _ _ _ _)
   | (with_reducible exact ih6 _ _ _ _ _ _)
   | (with_reducible exact octavoref05_digits.mono _ _ _ _)
   | (with_reducible exact LeO.refl _)
   | (with_reducible exact LeO.none _)
   | (with_reducible refine LeO.ite ?_ ?_)
   | (with_reducible refine LeO.bind ?_ (fun _ => ?_))
   | exact ih0 _ _
   | exact ih1 _ _
   | exact ih2 _ _ _ _
   | exact ih3 _ _ _ _
   | exact ih4 _ _ _
   | exact ih5 _ _ _ _
   | exact ih6 _ _ _ _ _ _
   | exact octavoref05_digits.mono _ _ _ _
   | exact LeO.none _
   | refine LeO.ite ?_ ?_
   | refine LeO.bind ?_ (fun _ => ?_)
  ·intro y0 y1 y2 y3
   unfold octavoref05_Parse.j4
   repeat' first
   | (with_reducible exact ih0 _ _)
   | (with_reducible exact ih1 _ _)
   | (with_reducible exact ih2 _ _ _ _)
   | (with_reducible exact ih3 _ _ _ _)
   | (with_reducible exact ih4 _ _ _)
   | (with_reducible exact ih5 _ _ _ _)
   | (with_reducible exact ih6 _ _ _ _ _ _)
   | (with_reducible exact octavoref05_digits.mono _ _ _ _)
   | (with_reducible exact LeO.refl _)
   | (with_reducible exact LeO.none _)
   | (with_reducible refine LeO.ite ?_ ?_)
   | (with_reducible refine LeO.bind ?_ (fun _ => ?_))
   | exact ih0 _ _
   | exact ih1 _ _
   | exact ih2 _ _ _ _
   | exact ih3 _ _ _ _
   | exact ih4 _ _ _
   | exact ih5 _ _ _ _
   | exact ih6 _ _ _ _ _ _
   | exact octavoref05_digits.mono _ _ _ _
   | exact LeO.none _
   | refine LeO.ite ?_ ?_
   | refine LeO.bind ?_ (fun _ => ?_)
  ·intro y0 y1 y2
   unfold octavoref05_Parse.l1
   repeat' first
   | (with_reducible exact ih0 _ _)
   | (with_reducible exact ih1 _ _)
   | (with_reducible exact ih2 _ _ _ _)
   | (with_reducible exact ih3 _ _ _ _)
   | (with_reducible exact ih4 _ _ _)
   | (with_reducible exact ih5 _ _ _ _)
   | (with_reducible exact ih6 _ _ _ _ _ _)
   | (with_reducible exact octavoref05_digits.mono _ _ _ _)
   | (with_reducible exact LeO.refl _)
   | (with_reducible exact LeO.none _)
   | (with_reducible refine LeO.ite ?_ ?_)
   | (with_reducible refine LeO.bind ?_ (fun _ => ?_))
   | exact ih0 _ _
   | exact ih1 _ _
   | exact ih2 _ _ _ _
   | exact ih3 _ _ _ _
   | exact ih4 _ _ _
   | exact ih5 _ _ _ _
   | exact ih6 _ _ _ _ _ _
   | exact octavoref05_digits.mono _ _ _ _
   | exact LeO.none _
   | refine LeO.ite ?_ ?_
   | refine LeO.bind ?_ (fun _ => ?_)
  ·intro y0 y1 y2 y3
   unfold octavoref05_Parse.l2
   repeat' first
   | (with_reducible exact ih0 _ _)
   | (with_reducible exact ih1 _ _)
   | (with_reducible exact ih2 _ _ _ _)
   | (with_reducible exact ih3 _ _ _ _)
   | (with_reducible exact ih4 _ _ _)
   | (with_reducible exact ih5 _ _ _ _)
   | (with_reducible exact ih6 _ _ _ _ _ _)
   | (with_reducible exact octavoref05_digits.mono _ _ _ _)
   | (with_reducible exact LeO.refl _)
   | (with_reducible exact LeO.none _)
   | (with_reducible refine LeO.ite ?_ ?_)
   | (with_reducible refine LeO.bind ?_ (fun _ => ?_))
   | exact ih0 _ _
   | exact ih1 _ _
   | exact ih2 _ _ _ _
   | exact ih3 _ _ _ _
   | exact ih4 _ _ _
   | exact ih5 _ _ _ _
   | exact ih6 _ _ _ _ _ _
   | exact octavoref05_digits.mono _ _ _ _
   | exact LeO.none _
   | refine LeO.ite ?_ ?_
   | refine LeO.bind ?_ (fun _ => ?_)
  ·intro y0 y1 y2 y3 y4 y5
   unfold octavoref05_Parse.l0
   repeat' first
   | (with_reducible exact ih0 _ _)
   | (with_reducible exact ih1 _ _)
   | (with_reducible exact ih2 _ _ _ _)
   | (with_reducible exact ih3 _ _ _ _)
   | (with_reducible exact ih4 _ _ _)
   | (with_reducible exact ih5 _ _ _ _)
   | (with_reducible exact ih6 _ _ _ _ _ _)
   | (with_reducible exact octavoref05_digits.mono _ _ _ _)
   | (with_reducible exact LeO.refl _)
   | (with_reducible exact LeO.none _)
   | (with_reducible refine LeO.ite ?_ ?_)
   | (with_reducible refine LeO.bind ?_ (fun _ => ?_))
   | exact ih0 _ _
   | exact ih1 _ _
   | exact ih2 _ _ _ _
   | exact ih3 _ _ _ _
   | exact ih4 _ _ _
   | exact ih5 _ _ _ _
   | exact ih6 _ _ _ _ _ _
   | exact octavoref05_digits.mono _ _ _ _
   | exact LeO.none _
   | refine LeO.ite ?_ ?_
   | refine LeO.bind ?_ (fun _ => ?_)
theorem octavoref05_Parse.mono : ∀ a0 k, LeO (octavoref05_Parse.f k a0) (octavoref05_Parse.f (k + 1) a0) := by
 intro a0 k
 obtain ⟨ih0, ih1, ih2, ih3, ih4, ih5, ih6⟩ := octavoref05_Parse.mono_l k
 unfold octavoref05_Parse.f
 repeat' first
   | (with_reducible exact ih0 _ _)
   | (with_reducible exact ih1 _ _)
   | (with_reducible exact ih2 _ _ _ _)
   | (with_reducible exact ih3 _ _ _ _)
   | (with_reducible exact ih4 _ _ _)
   | (with_reducible exact ih5 _ _ _ _)
   | (with_reducible exact ih6 _ _ _ _ _ _)
   | (with_reducible exact octavoref05_digits.mono _ _ _ _)
   | (with_reducible exact LeO.refl _)
   | (with_reducible exact LeO.none _)
   | (with_reducible refine LeO.ite ?_ ?_)
   | (with_reducible refine LeO.bind ?_ (fun _ => ?_))
   | exact ih0 _ _
   | exact ih1 _ _
   | exact ih2 _ _ _ _
   | exact ih3 _ _ _ _
   | exact ih4 _ _ _
   | exact ih5 _ _ _ _
   | exact ih6 _ _ _ _ _ _
   | exact octavoref05_digits.mono _ _ _ _
   | exact LeO.none _
   | refine LeO.ite ?_ ?_
   | refine LeO.bind ?_ (fun _ => ?_)
set_option maxHeartbeats 8000000 in
set_option maxRecDepth 100000 in
theorem octavoref05_Parse.calls (k : Nat) (a0 : ByteArray) (r1 : Int) (r2 : Bool) (w : World) (h : octavoref05_Parse.f k a0 = some (r1, r2)) :
  Calls Tryz.prog 130 #[.string a0] w fun e w' => e = .returned (.tuple #[.int .i64 r1, .bool r2]) ∧ Drawn0 w w' := by
 have H : (if (a0.size : Int) > 0 then (if 0 < (a0.size : Int) then (octavoref05_Parse.j0 k a0 ((bt a0 0) == 45)) else (none)) else (octavoref05_Parse.j0 k a0 false)) = some (r1, r2) := h
 clear h
 have HC2 := Aside0.mk H
 clear H
 go_enter Tryz.func130, Tryz.ntmps130
 go_upto_region 1 with (fail)
 repeat (go_quiet (fail); go_upto_region 1 with (fail))
 go_cut [4] (fun v4 wc => ∃ (kq : Nat) (x4_1 : Bool), v4 = .bool x4_1 ∧ Aside0 (octavoref05_Parse.j0 kq a0 x4_1 = some (r1, r2)) ∧ Aside0 (kq ≤ k) ∧ Drawn0 w wc)
 case first =>
  have H := HC2.out
  clear HC2
  by_cases c3 : (a0.size : Int) > 0
  ·rw [if_pos c3] at H
   have c3b0 : decide (0 < (a0.size : Int)) = true := decide_eq_true c3
   have c3b1 : decide (0 < a0.size) = true := decide_eq_true (by omega)
   clear c3
   (first | rw [c3b0] | (simp only [i64_w, i32_w]; rw [c3b0]) | skip)
   by_cases c4 : 0 < (a0.size : Int)
   ·rw [if_pos c4] at H
    have c4b0 : decide (0 < (a0.size : Int)) = true := decide_eq_true c4
    have c4b1 : decide (0 < a0.size) = true := decide_eq_true (by omega)
    clear c4
    have H' := Aside0.mk H
    clear H
    have p5 : 0 ≤ (0 : Int) := (by omega)
    have q5 : 0 < a0.size := (by have : (0 : Int) < (a0.size : Int) := of_decide_eq_true zas; omega)
    have hx5 : ∀ h : 0 < a0.size, ((a0[0]'h).toNat : Int) = bt a0 0 := bt_at a0 0
    clear p5
    have qi5 : (0 < (a0.size : Int)) = True := eq_true (of_decide_eq_true zas)
    replace q5 := eq_true q5
    go_wp2
    repeat (go_quiet (fail); try go_wp2)
    go_meet
    case rel => exact ⟨_, (((bt a0 0) == 45)), zrl, H', ⟨by first | omega | exact Nat.le_refl _⟩, zdn⟩
   ·rw [if_neg c4] at H
    exact absurd H (by simp)
  ·rw [if_neg c3] at H
   have c3b0 : decide (0 < (a0.size : Int)) = false := decide_eq_false c3
   have c3b1 : decide (0 < a0.size) = false := decide_eq_false (by omega)
   clear c3
   (first | rw [c3b0] | (simp only [i64_w, i32_w]; rw [c3b0]) | skip)
   have H' := Aside0.mk H
   clear H
   go_wp2
   repeat (go_quiet (fail); try go_wp2)
   go_meet
   case rel => exact ⟨_, (false), zrl, H', ⟨by first | omega | exact Nat.le_refl _⟩, zdn⟩
 case rest =>
  clear HC2
  try clear c1
  try clear p2
  try clear c3
  try clear c3b0
  try clear c3b1
  try clear c4
  try clear c4b0
  try clear c4b1
  try clear p5
  try clear q5
  try clear hx5
  try clear qi5
  try clear p5
  try clear q5
  obtain ⟨kq, x4_1, rfl, HA, HJ1, ⟨mc1, rfl⟩⟩ := hcut
  cases kq with
  | zero => exact absurd HA.out (by simp [octavoref05_Parse.j0])
  | succ kj1 =>
   have H := HA.out
   clear HA
   simp only [octavoref05_Parse.j0] at H
   have HC6 := Aside0.mk H
   clear H
   go_upto_if 20 with (fail)
   repeat (go_quiet (fail); go_upto_if 20 with (fail))
   go_cut [0] (fun v0 wc => ∃ (kq : Nat) (x0_5 : ByteArray), v0 = .string x0_5 ∧ Aside0 (octavoref05_Parse.j1 kq x0_5 x4_1 = some (r1, r2)) ∧ Aside0 (kq ≤ kj1) ∧ Drawn0 w wc)
   case first =>
    have H := HC6.out
    clear HC6
    by_cases c7 : x4_1 = true
    ·subst c7
     have H1 : (if 1 ≤ (a0.size : Int) then (octavoref05_Parse.j1 kj1 (a0.extract 1 a0.size) true) else (none)) = some (r1, r2) := by rw [if_pos rfl] at H; exact H
     clear H
     have H := H1
     clear H1
     by_cases c8 : 1 ≤ (a0.size : Int)
     ·rw [if_pos c8] at H
      have c8b0 := eq_true c8
      have c8b1 : decide (1 ≤ (a0.size : Int)) = true := decide_eq_true c8
      clear c8
      have H' := Aside0.mk H
      clear H
      go_wp2
      repeat (go_quiet (fail); try go_wp2)
      go_meet
      case rel => exact ⟨_, (a0.extract 1 a0.size), zrl, H', ⟨by have := HJ1.out; first | omega | exact Nat.le_refl _⟩, zdn⟩
     ·rw [if_neg c8] at H
      exact absurd H (by simp)
    ·replace c7 := Bool.eq_false_iff.mpr c7
     subst c7
     have H1 : (octavoref05_Parse.j1 kj1 a0 false) = some (r1, r2) := by rw [if_neg (show ¬ (false = true) by decide)] at H; exact H
     clear H
     have H := H1
     clear H1
     have H' := Aside0.mk H
     clear H
     go_wp2
     repeat (go_quiet (fail); try go_wp2)
     go_meet
     case rel => exact ⟨_, (a0), zrl, H', ⟨by have := HJ1.out; first | omega | exact Nat.le_refl _⟩, zdn⟩
   case rest =>
    clear HC6
    try clear c1
    try clear p2
    try clear c3
    try clear c3b0
    try clear c3b1
    try clear c4
    try clear c4b0
    try clear c4b1
    try clear p5
    try clear q5
    try clear hx5
    try clear qi5
    try clear c7
    try clear c8
    try clear c8b0
    try clear c8b1
    try clear p2
    try clear p5
    try clear q5
    obtain ⟨kq, x0_5, rfl, HA, HJ5, ⟨mc5, rfl⟩⟩ := hcut
    cases kq with
    | zero => exact absurd HA.out (by simp [octavoref05_Parse.j1])
    | succ kj5 =>
     have H := HA.out
     clear HA
     simp only [octavoref05_Parse.j1] at H
     have HC9 := Aside0.mk H
     clear H
     go_upto_block 0 with (fail)
     repeat (go_quiet (fail); go_upto_block 0 with (fail))
     go_cut [5, 6, 7] (fun v5 v6 v7 wc => ∃ (kq : Nat) (x5_8 : ByteArray) (x6_8 : ByteArray) (x7_8 : Bool), v5 = .string x5_8 ∧ v6 = .string x6_8 ∧ v7 = .bool x7_8 ∧ Aside0 (octavoref05_Parse.j3 kq x4_1 x5_8 x6_8 x7_8 = some (r1, r2)) ∧ Aside0 (kq ≤ kj5) ∧ Drawn0 w wc)
     case first =>
      have H := HC9.out
      clear HC9
      have H' := Aside0.mk H
      clear H
      go_wp2
      repeat (go_quiet (fail); try go_wp2)
      go_loopg [5, 6, 7, 8] kj5 (fun kq v5 v6 v7 v8 w' => ∃ (x5_3 : ByteArray) (x6_3 : ByteArray) (x7_3 : Bool) (x8_3 : Int), v5 = .string x5_3 ∧ v6 = .string x6_3 ∧ v7 = .bool x7_3 ∧ v8 = .int .i64 x8_3 ∧ Aside0 (octavoref05_Parse.l0 kq x0_5 x4_1 x5_3 x6_3 x7_3 x8_3 = some (r1, r2)) ∧ Aside0 (kq ≤ kj5) ∧ Drawn0 w w')
      case atStart => exact ⟨(x0_5), ((⟨#[]⟩ : ByteArray)), (false), (0), zrl, zrl, zrl, zrl, H', ⟨Nat.le_refl _⟩, zdn⟩
      case round =>
       clear H'
       try clear c1
       try clear p2
       try clear c3
       try clear c3b0
       try clear c3b1
       try clear c4
       try clear c4b0
       try clear c4b1
       try clear c5
       try clear p5
       try clear q5
       try clear hx5
       try clear qi5
       try clear c7
       try clear c8
       try clear c8b0
       try clear c8b1
       try clear p2
       try clear p5
       try clear q5
       obtain ⟨x5_3, x6_3, x7_3, x8_3, rfl, rfl, rfl, rfl, HA, HK3, ⟨m3, rfl⟩⟩ := hrel
       cases gk with
       | zero => exact absurd HA.out (by simp [octavoref05_Parse.l0])
       | succ k3 =>
        have H := HA.out
        clear HA
        simp only [octavoref05_Parse.l0] at H
        by_cases c10 : x8_3 < (x0_5.size : Int)
        ·rw [if_pos c10] at H
         have c10b0 : decide (x8_3 < (x0_5.size : Int)) = true := decide_eq_true c10
         clear c10
         (first | rw [c10b0] | (simp only [i64_w, i32_w]; rw [c10b0]) | skip)
         by_cases c11 : 0 ≤ x8_3
         ·rw [if_pos c11] at H
          have c11b0 : decide (0 ≤ x8_3) = true := decide_eq_true c11
          clear c11
          by_cases c13 : (bt x0_5 x8_3) = 46
          ·rw [if_pos c13] at H
           have c13b0 : ((bt x0_5 x8_3) == 46) = true := beq_iff_eq.mpr c13
           have c13b1 : ((bt x0_5 x8_3) != 46) = false := bne_eq_false_iff_eq.mpr c13
           clear c13
           have c14b0 := eq_true (of_decide_eq_true zas : 0 ≤ x8_3)
           by_cases c15 : x8_3 ≤ (x0_5.size : Int)
           ·rw [if_pos c15] at H
            have c15b0 := eq_true c15
            have c15b1 : decide (x8_3 ≤ (x0_5.size : Int)) = true := decide_eq_true c15
            clear c15
            obtain ⟨ji16, hji16⟩ : ∃ j_ : Int, (wrap64 (x8_3 + 1)) = j_ := ⟨_, rfl⟩
            replace H : (if 0 ≤ (ji16) then (if (ji16) ≤ (x0_5.size : Int) then (octavoref05_Parse.j3 k3 x4_1 (x0_5.extract 0 (x8_3 : Int).toNat) (x0_5.extract ((ji16) : Int).toNat x0_5.size) true) else (none)) else (none)) = some (r1, r2) := by first | (rw [hji16] at H; exact H) | (simp only [hji16] at H ⊢; exact H)
            have hji16w : (IntKind.i64.wrap (x8_3 + 1)) = ji16 := (i64_w _).trans hji16
            by_cases c17 : 0 ≤ (ji16)
            ·rw [if_pos c17] at H
             have c17b0 := eq_true c17
             have c17b1 : decide (0 ≤ (ji16)) = true := decide_eq_true c17
             clear c17
             by_cases c18 : (ji16) ≤ (x0_5.size : Int)
             ·rw [if_pos c18] at H
              have c18b0 := eq_true c18
              have c18b1 : decide ((ji16) ≤ (x0_5.size : Int)) = true := decide_eq_true c18
              clear c18
              have H' := Aside0.mk H
              clear H
              have p12 : 0 ≤ (x8_3 : Int) := of_decide_eq_true zas
              have q12 : x8_3 < (x0_5.size : Int) := of_decide_eq_true zas
              have hx12 := bt_at x0_5 x8_3
              replace p12 := eq_true p12
              replace q12 := eq_true q12
              go_wp2
              repeat (go_quiet (fail); try go_wp2)
              go_meet
              case rel => exact ⟨_, (x0_5.extract 0 (x8_3 : Int).toNat), (x0_5.extract ((ji16) : Int).toNat x0_5.size), (true), zrl, (by first | rfl | (simp; done) | (simp only [← hji16] <;> (first | rfl | simp)) | (simp [*]; done)), zrl, H', ⟨by have := HJ1.out; have := HJ5.out; have := HK3.out; first | omega | exact Nat.le_refl _⟩, zdn⟩
             ·rw [if_neg c18] at H
              exact absurd H (by simp)
            ·rw [if_neg c17] at H
             exact absurd H (by simp)
           ·rw [if_neg c15] at H
            exact absurd H (by simp)
          ·rw [if_neg c13] at H
           have c13b0 : ((bt x0_5 x8_3) == 46) = false := beq_eq_false_iff_ne.mpr c13
           have c13b1 : ((bt x0_5 x8_3) != 46) = true := bne_iff_ne.mpr c13
           have H' := Aside0.mk H
           clear H
           have p12 : 0 ≤ (x8_3 : Int) := of_decide_eq_true zas
           have q12 : x8_3 < (x0_5.size : Int) := of_decide_eq_true zas
           have hx12 := bt_at x0_5 x8_3
           replace p12 := eq_true p12
           replace q12 := eq_true q12
           go_wp2
           repeat (go_quiet (fail); try go_wp2)
           go_roundg k3
           case measure => have := HJ1.out; have := HJ5.out; have := HK3.out; omega
           case rel => exact ⟨(x5_3), (x6_3), (x7_3), (wrap64 (x8_3 + 1)), zrl, zrl, zrl, zrl, H', ⟨by have := HJ1.out; have := HJ5.out; have := HK3.out; omega⟩, zdn⟩
         ·rw [if_neg c11] at H
          exact absurd H (by simp)
        ·rw [if_neg c10] at H
         have c10b0 : decide (x8_3 < (x0_5.size : Int)) = false := decide_eq_false c10
         clear c10
         (first | rw [c10b0] | (simp only [i64_w, i32_w]; rw [c10b0]) | skip)
         have H' := Aside0.mk H
         clear H
         go_wp2
         repeat (go_quiet (fail); try go_wp2)
         go_meet
         case rel => exact ⟨_, (x5_3), (x6_3), (x7_3), zrl, zrl, zrl, H', ⟨by have := HJ1.out; have := HJ5.out; have := HK3.out; first | omega | exact Nat.le_refl _⟩, zdn⟩
     case rest =>
      clear HC9
      try clear c1
      try clear p1
      try clear q1
      try clear hx1
      try clear p2
      try clear c3
      try clear c3b0
      try clear c3b1
      try clear c4
      try clear c4b0
      try clear c4b1
      try clear c5
      try clear p5
      try clear q5
      try clear hx5
      try clear qi5
      try clear p6
      try clear c7
      try clear c8
      try clear c8b0
      try clear c8b1
      try clear c10
      try clear c10b0
      try clear c11
      try clear c11b0
      try clear p12
      try clear q12
      try clear hx12
      try clear c13
      try clear c13b0
      try clear c13b1
      try clear c14
      try clear c14b0
      try clear c15
      try clear c15b0
      try clear c15b1
      try clear c17
      try clear c17b0
      try clear c17b1
      try clear c18
      try clear c18b0
      try clear c18b1
      try clear p12
      try clear p2
      try clear p5
      try clear q12
      try clear q5
      obtain ⟨kq, x5_8, x6_8, x7_8, rfl, rfl, rfl, HA, HJ8, ⟨mc8, rfl⟩⟩ := hcut
      cases kq with
      | zero => exact absurd HA.out (by simp [octavoref05_Parse.j3])
      | succ kj8 =>
       have H := HA.out
       clear HA
       simp only [octavoref05_Parse.j3] at H
       have HC19 := Aside0.mk H
       clear H
       go_upto_region 11 with (fail)
       repeat (go_quiet (fail); go_upto_region 11 with (fail))
       go_cut [51] (fun v51 wc => ∃ (kq : Nat) (x51_18 : Bool), v51 = .bool x51_18 ∧ Aside0 (octavoref05_Parse.j4 kq x4_1 x5_8 x6_8 x51_18 = some (r1, r2)) ∧ Aside0 (kq ≤ kj8) ∧ Drawn0 w wc)
       case first =>
        have H := HC19.out
        clear HC19
        replace H := Option.bind_eq_some_iff.mp H
        obtain ⟨t171, A200, H⟩ := H
        replace H : (if t171 = true then (if x7_8 = true then ((octavoref05_digits.f kj8 x6_8 1 4).bind fun t172 => (octavoref05_Parse.j4 kj8 x4_1 x5_8 x6_8 (!t172))) else (octavoref05_Parse.j4 kj8 x4_1 x5_8 x6_8 false)) else (octavoref05_Parse.j4 kj8 x4_1 x5_8 x6_8 true)) = some (r1, r2) := H
        have A20 := Aside0.mk A200
        clear A200
        by_cases c21 : t171 = true
        ·subst c21
         have H1 : (if x7_8 = true then ((octavoref05_digits.f kj8 x6_8 1 4).bind fun t172 => (octavoref05_Parse.j4 kj8 x4_1 x5_8 x6_8 (!t172))) else (octavoref05_Parse.j4 kj8 x4_1 x5_8 x6_8 false)) = some (r1, r2) := by rw [if_pos rfl] at H; exact H
         clear H
         have H := H1
         clear H1
         by_cases c22 : x7_8 = true
         ·subst c22
          have H1 : ((octavoref05_digits.f kj8 x6_8 1 4).bind fun t172 => (octavoref05_Parse.j4 kj8 x4_1 x5_8 x6_8 (!t172))) = some (r1, r2) := by rw [if_pos rfl] at H; exact H
          clear H
          have H := H1
          clear H1
          replace H := Option.bind_eq_some_iff.mp H
          obtain ⟨t172, A230, H⟩ := H
          replace H : (octavoref05_Parse.j4 kj8 x4_1 x5_8 x6_8 (!t172)) = some (r1, r2) := H
          have A23 := Aside0.mk A230
          clear A230
          have H' := Aside0.mk H
          clear H
          go_wp2_with (first | (go_at_call 142; (with_reducible refine (octavoref05_digits.calls kj8 x5_8 1 12 true _ A20.out).mono ?_); rintro e w' ⟨rfl, ⟨nd, rfl⟩⟩; (try first | exact ⟨rfl, _, World.drewN_drewN _ _ _⟩ | exact ⟨rfl, _, Eq.trans (World.drewN_drewN _ _ _) (congrArg (World.drewN _) (Nat.add_assoc _ _ _))⟩)) | (go_at_call 142; (with_reducible refine (octavoref05_digits.calls kj8 x6_8 1 4 t172 _ A23.out).mono ?_); rintro e w' ⟨rfl, ⟨nd, rfl⟩⟩; (try first | exact ⟨rfl, _, World.drewN_drewN _ _ _⟩ | exact ⟨rfl, _, Eq.trans (World.drewN_drewN _ _ _) (congrArg (World.drewN _) (Nat.add_assoc _ _ _))⟩)))
          repeat (go_quiet (first | (go_at_call 142; (with_reducible refine (octavoref05_digits.calls kj8 x5_8 1 12 true _ A20.out).mono ?_); rintro e w' ⟨rfl, ⟨nd, rfl⟩⟩; (try first | exact ⟨rfl, _, World.drewN_drewN _ _ _⟩ | exact ⟨rfl, _, Eq.trans (World.drewN_drewN _ _ _) (congrArg (World.drewN _) (Nat.add_assoc _ _ _))⟩)) | (go_at_call 142; (with_reducible refine (octavoref05_digits.calls kj8 x6_8 1 4 t172 _ A23.out).mono ?_); rintro e w' ⟨rfl, ⟨nd, rfl⟩⟩; (try first | exact ⟨rfl, _, World.drewN_drewN _ _ _⟩ | exact ⟨rfl, _, Eq.trans (World.drewN_drewN _ _ _) (congrArg (World.drewN _) (Nat.add_assoc _ _ _))⟩))); try go_wp2_with (first | (go_at_call 142; (with_reducible refine (octavoref05_digits.calls kj8 x5_8 1 12 true _ A20.out).mono ?_); rintro e w' ⟨rfl, ⟨nd, rfl⟩⟩; (try first | exact ⟨rfl, _, World.drewN_drewN _ _ _⟩ | exact ⟨rfl, _, Eq.trans (World.drewN_drewN _ _ _) (congrArg (World.drewN _) (Nat.add_assoc _ _ _))⟩)) | (go_at_call 142; (with_reducible refine (octavoref05_digits.calls kj8 x6_8 1 4 t172 _ A23.out).mono ?_); rintro e w' ⟨rfl, ⟨nd, rfl⟩⟩; (try first | exact ⟨rfl, _, World.drewN_drewN _ _ _⟩ | exact ⟨rfl, _, Eq.trans (World.drewN_drewN _ _ _) (congrArg (World.drewN _) (Nat.add_assoc _ _ _))⟩))))
          go_meet
          case rel => exact ⟨_, (!t172), zrl, H', ⟨by have := HJ1.out; have := HJ5.out; have := HJ8.out; first | omega | exact Nat.le_refl _⟩, zdn⟩
         ·replace c22 := Bool.eq_false_iff.mpr c22
          subst c22
          have H1 : (octavoref05_Parse.j4 kj8 x4_1 x5_8 x6_8 false) = some (r1, r2) := by rw [if_neg (show ¬ (false = true) by decide)] at H; exact H
          clear H
          have H := H1
          clear H1
          have H' := Aside0.mk H
          clear H
          go_wp2_with (first | (go_at_call 142; (with_reducible refine (octavoref05_digits.calls kj8 x5_8 1 12 true _ A20.out).mono ?_); rintro e w' ⟨rfl, ⟨nd, rfl⟩⟩; (try first | exact ⟨rfl, _, World.drewN_drewN _ _ _⟩ | exact ⟨rfl, _, Eq.trans (World.drewN_drewN _ _ _) (congrArg (World.drewN _) (Nat.add_assoc _ _ _))⟩)))
          repeat (go_quiet (first | (go_at_call 142; (with_reducible refine (octavoref05_digits.calls kj8 x5_8 1 12 true _ A20.out).mono ?_); rintro e w' ⟨rfl, ⟨nd, rfl⟩⟩; (try first | exact ⟨rfl, _, World.drewN_drewN _ _ _⟩ | exact ⟨rfl, _, Eq.trans (World.drewN_drewN _ _ _) (congrArg (World.drewN _) (Nat.add_assoc _ _ _))⟩))); try go_wp2_with (first | (go_at_call 142; (with_reducible refine (octavoref05_digits.calls kj8 x5_8 1 12 true _ A20.out).mono ?_); rintro e w' ⟨rfl, ⟨nd, rfl⟩⟩; (try first | exact ⟨rfl, _, World.drewN_drewN _ _ _⟩ | exact ⟨rfl, _, Eq.trans (World.drewN_drewN _ _ _) (congrArg (World.drewN _) (Nat.add_assoc _ _ _))⟩))))
          go_meet
          case rel => exact ⟨_, (false), zrl, H', ⟨by have := HJ1.out; have := HJ5.out; have := HJ8.out; first | omega | exact Nat.le_refl _⟩, zdn⟩
        ·replace c21 := Bool.eq_false_iff.mpr c21
         subst c21
         have H1 : (octavoref05_Parse.j4 kj8 x4_1 x5_8 x6_8 true) = some (r1, r2) := by rw [if_neg (show ¬ (false = true) by decide)] at H; exact H
         clear H
         have H := H1
         clear H1
         have H' := Aside0.mk H
         clear H
         go_wp2_with (first | (go_at_call 142; (with_reducible refine (octavoref05_digits.calls kj8 x5_8 1 12 false _ A20.out).mono ?_); rintro e w' ⟨rfl, ⟨nd, rfl⟩⟩; (try first | exact ⟨rfl, _, World.drewN_drewN _ _ _⟩ | exact ⟨rfl, _, Eq.trans (World.drewN_drewN _ _ _) (congrArg (World.drewN _) (Nat.add_assoc _ _ _))⟩)))
         repeat (go_quiet (first | (go_at_call 142; (with_reducible refine (octavoref05_digits.calls kj8 x5_8 1 12 false _ A20.out).mono ?_); rintro e w' ⟨rfl, ⟨nd, rfl⟩⟩; (try first | exact ⟨rfl, _, World.drewN_drewN _ _ _⟩ | exact ⟨rfl, _, Eq.trans (World.drewN_drewN _ _ _) (congrArg (World.drewN _) (Nat.add_assoc _ _ _))⟩))); try go_wp2_with (first | (go_at_call 142; (with_reducible refine (octavoref05_digits.calls kj8 x5_8 1 12 false _ A20.out).mono ?_); rintro e w' ⟨rfl, ⟨nd, rfl⟩⟩; (try first | exact ⟨rfl, _, World.drewN_drewN _ _ _⟩ | exact ⟨rfl, _, Eq.trans (World.drewN_drewN _ _ _) (congrArg (World.drewN _) (Nat.add_assoc _ _ _))⟩))))
         go_meet
         case rel => exact ⟨_, (true), zrl, H', ⟨by have := HJ1.out; have := HJ5.out; have := HJ8.out; first | omega | exact Nat.le_refl _⟩, zdn⟩
       case rest =>
        clear HC19
        try clear c1
        try clear p1
        try clear q1
        try clear hx1
        try clear c2
        try clear p2
        try clear c3
        try clear c3b0
        try clear c3b1
        try clear c4
        try clear c4b0
        try clear c4b1
        try clear c5
        try clear p5
        try clear q5
        try clear hx5
        try clear qi5
        try clear p6
        try clear c7
        try clear c8
        try clear c8b0
        try clear c8b1
        try clear c10
        try clear c10b0
        try clear c11
        try clear c11b0
        try clear p12
        try clear q12
        try clear hx12
        try clear c13
        try clear c13b0
        try clear c13b1
        try clear c14
        try clear c14b0
        try clear c15
        try clear c15b0
        try clear c15b1
        try clear c17
        try clear c17b0
        try clear c17b1
        try clear c18
        try clear c18b0
        try clear c18b1
        try clear c21
        try clear c22
        try clear p1
        try clear p12
        try clear p2
        try clear p5
        try clear p6
        try clear q1
        try clear q12
        try clear q5
        obtain ⟨kq, x51_18, rfl, HA, HJ18, ⟨mc18, rfl⟩⟩ := hcut
        cases kq with
        | zero => exact absurd HA.out (by simp [octavoref05_Parse.j4])
        | succ kj18 =>
         have H := HA.out
         clear HA
         simp only [octavoref05_Parse.j4] at H
         by_cases c24 : x51_18 = true
         ·subst c24
          have H1 : (some (0, false)) = some (r1, r2) := by rw [if_pos rfl] at H; exact H
          clear H
          have H := H1
          clear H1
          simp only [Option.some.injEq, Prod.mk.injEq] at H
          obtain ⟨rfl, rfl⟩ := H
          go_wp2
          repeat (go_quiet (fail); try go_wp2)
          go_ret2
          exact ⟨zrl, zdn⟩
         ·replace c24 := Bool.eq_false_iff.mpr c24
          subst c24
          have H1 : (octavoref05_Parse.l1 kj18 x4_1 x5_8 x6_8) = some (r1, r2) := by rw [if_neg (show ¬ (false = true) by decide)] at H; exact H
          clear H
          have H := H1
          clear H1
          have H' := Aside0.mk H
          clear H
          go_wp2
          repeat (go_quiet (fail); try go_wp2)
          go_loopg [6] kj18 (fun kq v6 w' => ∃ (x6_5 : ByteArray), v6 = .string x6_5 ∧ Aside0 (octavoref05_Parse.l1 kq x4_1 x5_8 x6_5 = some (r1, r2)) ∧ Aside0 (kq ≤ kj18) ∧ Drawn0 w w')
          case atStart => exact ⟨(x6_8), zrl, H', ⟨Nat.le_refl _⟩, zdn⟩
          case round =>
           clear H'
           try clear c1
           try clear p1
           try clear q1
           try clear hx1
           try clear c2
           try clear p2
           try clear c3
           try clear c3b0
           try clear c3b1
           try clear c4
           try clear c4b0
           try clear c4b1
           try clear c5
           try clear p5
           try clear q5
           try clear hx5
           try clear qi5
           try clear p6
           try clear c7
           try clear c8
           try clear c8b0
           try clear c8b1
           try clear c10
           try clear c10b0
           try clear c11
           try clear c11b0
           try clear p12
           try clear q12
           try clear hx12
           try clear c13
           try clear c13b0
           try clear c13b1
           try clear c14
           try clear c14b0
           try clear c15
           try clear c15b0
           try clear c15b1
           try clear c17
           try clear c17b0
           try clear c17b1
           try clear c18
           try clear c18b0
           try clear c18b1
           try clear c21
           try clear c22
           try clear c24
           try clear p1
           try clear p12
           try clear p2
           try clear p5
           try clear p6
           try clear q1
           try clear q12
           try clear q5
           obtain ⟨x6_5, rfl, HA, HK5, ⟨m5, rfl⟩⟩ := hrel
           cases gk with
           | zero => exact absurd HA.out (by simp [octavoref05_Parse.l1])
           | succ k5 =>
            have H := HA.out
            clear HA
            simp only [octavoref05_Parse.l1] at H
            by_cases c25 : (x6_5.size : Int) < 4
            ·rw [if_pos c25] at H
             have c25b0 : decide ((x6_5.size : Int) < 4) = true := decide_eq_true c25
             have c25b1 : decide (x6_5.size < 4) = true := decide_eq_true (by omega)
             clear c25
             by_cases c26 : x6_5.size + 1 ≤ 9223372036854775807
             ·rw [if_pos c26] at H
              have c26b0 := eq_true c26
              have c26b1 : decide (x6_5.size + 1 ≤ 9223372036854775807) = true := decide_eq_true c26
              try have c26b2 : (9223372036854775807 < x6_5.size + 1) = False := eq_false (Nat.not_lt.2 c26)
              have H' := Aside0.mk H
              clear H
              go_wp2
              repeat (go_quiet (fail); try go_wp2)
              go_roundg k5
              case measure => have := HJ1.out; have := HJ5.out; have := HJ8.out; have := HJ18.out; have := HK5.out; omega
              case rel => exact ⟨(x6_5 ++ (⟨#[48]⟩ : ByteArray)), zrl, H', ⟨by have := HJ1.out; have := HJ5.out; have := HJ8.out; have := HJ18.out; have := HK5.out; omega⟩, zdn⟩
             ·rw [if_neg c26] at H
              exact absurd H (by simp)
            ·rw [if_neg c25] at H
             have c25b0 : decide ((x6_5.size : Int) < 4) = false := decide_eq_false c25
             have c25b1 : decide (x6_5.size < 4) = false := decide_eq_false (by omega)
             clear c25
             by_cases c27 : x5_8.size + x6_5.size ≤ 9223372036854775807
             ·rw [if_pos c27] at H
              have c27b0 := eq_true c27
              have c27b1 : decide (x5_8.size + x6_5.size ≤ 9223372036854775807) = true := decide_eq_true c27
              try have c27b2 : (9223372036854775807 < x5_8.size + x6_5.size) = False := eq_false (Nat.not_lt.2 c27)
              have H' := Aside0.mk H
              clear H
              go_wp2
              repeat (go_quiet (fail); try go_wp2)
              go_loopg [9, 11] k5 (fun kq v9 v11 w' => ∃ (x9_6 : Int) (x11_6 : Int), v9 = .int .i64 x9_6 ∧ v11 = .int .i64 x11_6 ∧ Aside0 (octavoref05_Parse.l2 kq x4_1 x9_6 (x5_8 ++ x6_5) x11_6 = some (r1, r2)) ∧ Aside0 (kq ≤ k5) ∧ Drawn0 w w')
              case atStart => exact ⟨(0), (0), zrl, zrl, H', ⟨Nat.le_refl _⟩, zdn⟩
              case round =>
               clear H'
               try clear c1
               try clear p1
               try clear q1
               try clear hx1
               try clear c2
               try clear p2
               try clear c3
               try clear c3b0
               try clear c3b1
               try clear c4
               try clear c4b0
               try clear c4b1
               try clear c5
               try clear p5
               try clear q5
               try clear hx5
               try clear qi5
               try clear p6
               try clear c7
               try clear c8
               try clear c8b0
               try clear c8b1
               try clear c10
               try clear c10b0
               try clear c11
               try clear c11b0
               try clear p12
               try clear q12
               try clear hx12
               try clear c13
               try clear c13b0
               try clear c13b1
               try clear c14
               try clear c14b0
               try clear c15
               try clear c15b0
               try clear c15b1
               try clear c17
               try clear c17b0
               try clear c17b1
               try clear c18
               try clear c18b0
               try clear c18b1
               try clear c21
               try clear c22
               try clear c24
               try clear c25
               try clear c25b0
               try clear c25b1
               try clear c26
               try clear c26b0
               try clear c26b1
               try clear c26b2
               try clear c27
               try clear c27b0
               try clear c27b1
               try clear c27b2
               try clear p1
               try clear p12
               try clear p2
               try clear p5
               try clear p6
               try clear q1
               try clear q12
               try clear q5
               obtain ⟨x9_6, x11_6, rfl, rfl, HA, HK6, ⟨m6, rfl⟩⟩ := hrel
               cases gk with
               | zero => exact absurd HA.out (by simp [octavoref05_Parse.l2])
               | succ k6 =>
                have H := HA.out
                clear HA
                simp only [octavoref05_Parse.l2] at H
                by_cases c28 : x11_6 < ((x5_8 ++ x6_5).size : Int)
                ·rw [if_pos c28] at H
                 have c28b0 : decide (x11_6 < ((x5_8 ++ x6_5).size : Int)) = true := decide_eq_true c28
                 (try (have c28b0s := c28b0; simp only [ByteArray.size_append, Int.natCast_add] at c28b0s))
                 (try (have c28b0r := of_decide_eq_true (c28b0s); have c28b0q := eq_true c28b0r; have c28b0p := Int.not_le.mpr c28b0r; clear c28b0r))
                 clear c28
                 by_cases c29 : 0 ≤ x11_6
                 ·rw [if_pos c29] at H
                  have c29b0 : decide (0 ≤ x11_6) = true := decide_eq_true c29
                  clear c29
                  have H' := Aside0.mk H
                  clear H
                  have p30 : 0 ≤ (x11_6 : Int) := of_decide_eq_true zas
                  have q30 : x11_6 < ((x5_8 ++ x6_5).size : Int) := of_decide_eq_true zas
                  have hx30 := bt_at (x5_8 ++ x6_5) x11_6
                  replace p30 := eq_true p30
                  replace q30 := eq_true q30
                  go_wp2
                  repeat (go_quiet (fail); try go_wp2)
                  go_roundg k6
                  case measure => have := HJ1.out; have := HJ5.out; have := HJ8.out; have := HJ18.out; have := HK5.out; have := HK6.out; omega
                  case rel => exact ⟨(wrap64 ((wrap64 (10 * x9_6)) + (((bt (x5_8 ++ x6_5) x11_6) - 48) % 256))), (wrap64 (x11_6 + 1)), zrl, zrl, H', ⟨by have := HJ1.out; have := HJ5.out; have := HJ8.out; have := HJ18.out; have := HK5.out; have := HK6.out; omega⟩, zdn⟩
                 ·rw [if_neg c29] at H
                  exact absurd H (by simp)
                ·rw [if_neg c28] at H
                 have c28b0 : decide (x11_6 < ((x5_8 ++ x6_5).size : Int)) = false := decide_eq_false c28
                 (try (have c28b0s := c28b0; simp only [ByteArray.size_append, Int.natCast_add] at c28b0s))
                 (try (have c28b0r := of_decide_eq_false (c28b0s); have c28b0q := eq_false c28b0r; have c28b0p := Int.not_lt.mp c28b0r; clear c28b0r))
                 clear c28
                 by_cases c31 : x4_1 = true
                 ·subst c31
                  have H1 : ((octavoref05_out.f (wrap64 (-x9_6))).bind fun bt173 => (some (bt173.1, bt173.2))) = some (r1, r2) := by rw [if_pos rfl] at H; exact H
                  clear H
                  have H := H1
                  clear H1
                  replace H := Option.bind_eq_some_iff.mp H
                  obtain ⟨⟨t173, t174⟩, A320, H⟩ := H
                  replace H : (some (t173, t174)) = some (r1, r2) := H
                  have A32 := Aside0.mk A320
                  clear A320
                  simp only [Option.some.injEq, Prod.mk.injEq] at H
                  obtain ⟨rfl, rfl⟩ := H
                  go_wp2_with (first | (go_at_call 143; (with_reducible refine (octavoref05_out.calls (wrap64 (-x9_6)) t173 t174 _ A32.out).mono ?_); rintro e w' ⟨rfl, ⟨nd, rfl⟩⟩; (try first | exact ⟨rfl, _, World.drewN_drewN _ _ _⟩ | exact ⟨rfl, _, Eq.trans (World.drewN_drewN _ _ _) (congrArg (World.drewN _) (Nat.add_assoc _ _ _))⟩)))
                  repeat (go_quiet (first | (go_at_call 143; (with_reducible refine (octavoref05_out.calls (wrap64 (-x9_6)) t173 t174 _ A32.out).mono ?_); rintro e w' ⟨rfl, ⟨nd, rfl⟩⟩; (try first | exact ⟨rfl, _, World.drewN_drewN _ _ _⟩ | exact ⟨rfl, _, Eq.trans (World.drewN_drewN _ _ _) (congrArg (World.drewN _) (Nat.add_assoc _ _ _))⟩))); try go_wp2_with (first | (go_at_call 143; (with_reducible refine (octavoref05_out.calls (wrap64 (-x9_6)) t173 t174 _ A32.out).mono ?_); rintro e w' ⟨rfl, ⟨nd, rfl⟩⟩; (try first | exact ⟨rfl, _, World.drewN_drewN _ _ _⟩ | exact ⟨rfl, _, Eq.trans (World.drewN_drewN _ _ _) (congrArg (World.drewN _) (Nat.add_assoc _ _ _))⟩))))
                  go_ret2
                  exact ⟨zrl, zdn⟩
                 ·replace c31 := Bool.eq_false_iff.mpr c31
                  subst c31
                  have H1 : ((octavoref05_out.f x9_6).bind fun bt175 => (some (bt175.1, bt175.2))) = some (r1, r2) := by rw [if_neg (show ¬ (false = true) by decide)] at H; exact H
                  clear H
                  have H := H1
                  clear H1
                  replace H := Option.bind_eq_some_iff.mp H
                  obtain ⟨⟨t175, t176⟩, A330, H⟩ := H
                  replace H : (some (t175, t176)) = some (r1, r2) := H
                  have A33 := Aside0.mk A330
                  clear A330
                  simp only [Option.some.injEq, Prod.mk.injEq] at H
                  obtain ⟨rfl, rfl⟩ := H
                  go_wp2_with (first | (go_at_call 143; (with_reducible refine (octavoref05_out.calls x9_6 t175 t176 _ A33.out).mono ?_); rintro e w' ⟨rfl, ⟨nd, rfl⟩⟩; (try first | exact ⟨rfl, _, World.drewN_drewN _ _ _⟩ | exact ⟨rfl, _, Eq.trans (World.drewN_drewN _ _ _) (congrArg (World.drewN _) (Nat.add_assoc _ _ _))⟩)))
                  repeat (go_quiet (first | (go_at_call 143; (with_reducible refine (octavoref05_out.calls x9_6 t175 t176 _ A33.out).mono ?_); rintro e w' ⟨rfl, ⟨nd, rfl⟩⟩; (try first | exact ⟨rfl, _, World.drewN_drewN _ _ _⟩ | exact ⟨rfl, _, Eq.trans (World.drewN_drewN _ _ _) (congrArg (World.drewN _) (Nat.add_assoc _ _ _))⟩))); try go_wp2_with (first | (go_at_call 143; (with_reducible refine (octavoref05_out.calls x9_6 t175 t176 _ A33.out).mono ?_); rintro e w' ⟨rfl, ⟨nd, rfl⟩⟩; (try first | exact ⟨rfl, _, World.drewN_drewN _ _ _⟩ | exact ⟨rfl, _, Eq.trans (World.drewN_drewN _ _ _) (congrArg (World.drewN _) (Nat.add_assoc _ _ _))⟩))))
                  go_ret2
                  exact ⟨zrl, zdn⟩
             ·rw [if_neg c27] at H
              exact absurd H (by simp)
end Go.Proofs.YtllceoncpgebpaaGreatDoor.P
