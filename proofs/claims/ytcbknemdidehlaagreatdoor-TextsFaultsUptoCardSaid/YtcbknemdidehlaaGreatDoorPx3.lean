-- Written by a program of this session (wip/tools/xprint.py), out of the seat's translation. Not trusted: Lean checks it.
import Derived.Test.YtcbknemdidehlaaGreatDoorPx0
import Derived.Test.YtcbknemdidehlaaGreatDoorPx1
import Derived.Test.YtcbknemdidehlaaGreatDoorPx2
namespace Go.Proofs.YtcbknemdidehlaaGreatDoor.P
open Go.RowKit Go.Proofs.YtcbknemdidehlaaGreatDoorW.PrintWords Go.Proofs.YtcbknemdidehlaaGreatDoorW.PrintLast Go.Proofs.YtcbknemdidehlaaGreatDoorW.PrintMore
attribute [local go_sem] max2_int min2_int max_two min_two max_three min_three max_four min_four X.binOp_str_gtr X.binOp_str_leq
set_option linter.unusedVariables false
set_option linter.unusedSimpArgs false
mutual
def num_Round.j0 : Nat → Int → Int → Int → Bool → Option (Int × Bool)
 | 0, _, _, _, _ => none
 | k + 1, x0, x1, x2, x30 => if x30 = true then (some (0, false)) else (num_Round.l0 k x0 x2 1 (wrap64 (4 - x1)) 0)
def num_Round.l0 : Nat → Int → Int → Int → Int → Int → Option (Int × Bool)
 | 0, _, _, _, _, _ => none
 | k + 1, x0, x2, x8, x32, x33 => if x33 < x32 then (num_Round.l0 k x0 x2 (wrap64 (x8 * 10)) x32 (wrap64 (x33 + 1))) else ((num_floor.f x0 x8).bind fun t129 => (if (wrap64 (x0 - (wrap64 (t129 * x8)))) = 0 then (some (x0, true)) else (if (wrap64 (2 * (wrap64 (x0 - (wrap64 (t129 * x8)))))) > x8 then (if 0 ≤ x2 then (if x2 < 5 then (if (rdOf false ([true, decide (x0 > 0), decide (x0 < 0), true, false] : List Bool) x2) = true then ((num_told.f (wrap64 ((wrap64 (x0 - (wrap64 (x0 - (wrap64 (t129 * x8)))))) + x8))).bind fun bt130 => (some (bt130.1, bt130.2))) else ((num_told.f (wrap64 (x0 - (wrap64 (x0 - (wrap64 (t129 * x8))))))).bind fun bt132 => (some (bt132.1, bt132.2)))) else (none)) else (none)) else (if (wrap64 (2 * (wrap64 (x0 - (wrap64 (t129 * x8)))))) = x8 then (if 0 ≤ x2 then (if x2 < 5 then (if (rdOf false ([decide (x0 > 0), decide (x0 > 0), decide (x0 < 0), true, false] : List Bool) x2) = true then ((num_told.f (wrap64 ((wrap64 (x0 - (wrap64 (x0 - (wrap64 (t129 * x8)))))) + x8))).bind fun bt134 => (some (bt134.1, bt134.2))) else ((num_told.f (wrap64 (x0 - (wrap64 (x0 - (wrap64 (t129 * x8))))))).bind fun bt136 => (some (bt136.1, bt136.2)))) else (none)) else (none)) else (if 0 ≤ x2 then (if x2 < 5 then (if (rdOf false ([false, decide (x0 > 0), decide (x0 < 0), true, false] : List Bool) x2) = true then ((num_told.f (wrap64 ((wrap64 (x0 - (wrap64 (x0 - (wrap64 (t129 * x8)))))) + x8))).bind fun bt138 => (some (bt138.1, bt138.2))) else ((num_told.f (wrap64 (x0 - (wrap64 (x0 - (wrap64 (t129 * x8))))))).bind fun bt140 => (some (bt140.1, bt140.2)))) else (none)) else (none))))))
end
def num_Round.f (k : Nat) (a0 : Int) (a1 : Int) (a2 : Int) : Option (Int × Bool) := (num_Good.f a0).bind fun t128 => (if t128 = true then (if a1 < (-8) then (num_Round.j0 k a0 a1 a2 true) else (if a1 > 4 then (num_Round.j0 k a0 a1 a2 true) else (if a2 < 0 then (num_Round.j0 k a0 a1 a2 true) else (num_Round.j0 k a0 a1 a2 (decide (a2 > 4)))))) else (num_Round.j0 k a0 a1 a2 true))
theorem num_Round.mono_l : ∀ k, (∀ y0 y1 y2 y3, LeO (num_Round.j0 k y0 y1 y2 y3) (num_Round.j0 (k + 1) y0 y1 y2 y3)) ∧ (∀ y0 y1 y2 y3 y4, LeO (num_Round.l0 k y0 y1 y2 y3 y4) (num_Round.l0 (k + 1) y0 y1 y2 y3 y4))
 | 0 => ⟨fun _ _ _ _ r h => by simp [num_Round.j0] at h, fun _ _ _ _ _ r h => by simp [num_Round.l0] at h⟩
 | k + 1 => by
  obtain ⟨ih0, ih1⟩ := num_Round.mono_l k
  refine ⟨?_, ?_⟩
  ·intro y0 y1 y2 y3
   unfold num_Round.j0
   repeat' first
   | (with_reducible exact ih0 _ _ _ _)
   | (with_reducible exact ih1 _ _ _ _ _)
   | (with_reducible exact LeO.refl _)
   | (with_reducible exact LeO.none _)
   | (with_reducible refine LeO.ite ?_ ?_)
   | (with_reducible refine LeO.bind ?_ (fun _ => ?_))
   | exact ih0 _ _ _ _
   | exact ih1 _ _ _ _ _
   | exact LeO.none _
   | refine LeO.ite ?_ ?_
   | refine LeO.bind ?_ (fun _ => ?_)
  ·intro y0 y1 y2 y3 y4
   unfold num_Round.l0
   repeat' first
   | (with_reducible exact ih0 _ _ _ _)
   | (with_reducible exact ih1 _ _ _ _ _)
   | (with_reducible exact LeO.refl _)
   | (with_reducible exact LeO.none _)
   | (with_reducible refine LeO.ite ?_ ?_)
   | (with_reducible refine LeO.bind ?_ (fun _ => ?_))
   | exact ih0 _ _ _ _
   | exact ih1 _ _ _ _ _
   | exact LeO.none _
   | refine LeO.ite ?_ ?_
   | refine LeO.bind ?_ (fun _ => ?_)
theorem num_Round.mono : ∀ a0 a1 a2 k, LeO (num_Round.f k a0 a1 a2) (num_Round.f (k + 1) a0 a1 a2) := by
 intro a0 a1 a2 k
 obtain ⟨ih0, ih1⟩ := num_Round.mono_l k
 unfold num_Round.f
 repeat' first
   | (with_reducible exact ih0 _ _ _ _)
   | (with_reducible exact ih1 _ _ _ _ _)
   | (with_reducible exact LeO.refl _)
   | (with_reducible exact LeO.none _)
   | (with_reducible refine LeO.ite ?_ ?_)
   | (with_reducible refine LeO.bind ?_ (fun _ => ?_))
   | exact ih0 _ _ _ _
   | exact ih1 _ _ _ _ _
   | exact LeO.none _
   | refine LeO.ite ?_ ?_
   | refine LeO.bind ?_ (fun _ => ?_)
set_option maxHeartbeats 8000000 in
set_option maxRecDepth 100000 in
theorem num_Round.calls (k : Nat) (a0 : Int) (a1 : Int) (a2 : Int) (r1 : Int) (r2 : Bool) (w : World) (h : num_Round.f k a0 a1 a2 = some (r1, r2)) :
  Calls Tryz.prog 139 #[.int .i64 a0, .int .i64 a1, .int .i64 a2] w fun e w' => e = .returned (.tuple #[.int .i64 r1, .bool r2]) ∧ Drawn0 w w' := by
 have hu145 := Tryz.underlying145
 have H : ((num_Good.f a0).bind fun t128 => (if t128 = true then (if a1 < (-8) then (num_Round.j0 k a0 a1 a2 true) else (if a1 > 4 then (num_Round.j0 k a0 a1 a2 true) else (if a2 < 0 then (num_Round.j0 k a0 a1 a2 true) else (num_Round.j0 k a0 a1 a2 (decide (a2 > 4)))))) else (num_Round.j0 k a0 a1 a2 true))) = some (r1, r2) := h
 clear h
 have HC4 := Aside0.mk H
 clear H
 go_enter Tryz.func139, Tryz.ntmps139
 go_upto_region 1 with (fail)
 go_cut [30] (fun v30 wc => ∃ (kq : Nat) (x30_3 : Bool), v30 = .bool x30_3 ∧ Aside0 (num_Round.j0 kq a0 a1 a2 x30_3 = some (r1, r2)) ∧ Aside0 (kq ≤ k) ∧ Drawn0 w wc)
 case first =>
  have H := HC4.out
  clear HC4
  replace H := Option.bind_eq_some_iff.mp H
  obtain ⟨t128, A50, H⟩ := H
  replace H : (if t128 = true then (if a1 < (-8) then (num_Round.j0 k a0 a1 a2 true) else (if a1 > 4 then (num_Round.j0 k a0 a1 a2 true) else (if a2 < 0 then (num_Round.j0 k a0 a1 a2 true) else (num_Round.j0 k a0 a1 a2 (decide (a2 > 4)))))) else (num_Round.j0 k a0 a1 a2 true)) = some (r1, r2) := H
  have A5 := Aside0.mk A50
  clear A50
  by_cases c6 : t128 = true
  ·subst c6
   have H1 : (if a1 < (-8) then (num_Round.j0 k a0 a1 a2 true) else (if a1 > 4 then (num_Round.j0 k a0 a1 a2 true) else (if a2 < 0 then (num_Round.j0 k a0 a1 a2 true) else (num_Round.j0 k a0 a1 a2 (decide (a2 > 4)))))) = some (r1, r2) := by rw [if_pos rfl] at H; exact H
   clear H
   have H := H1
   clear H1
   by_cases c7 : a1 < (-8)
   ·rw [if_pos c7] at H
    have c7b0 : decide (a1 < (-8)) = true := decide_eq_true c7
    clear c7
    (first | rw [c7b0] | (simp only [i64_w, i32_w]; rw [c7b0]) | skip)
    have H' := Aside0.mk H
    clear H
    go_wp2_with (first | ((with_reducible refine gate_callee (f := 116) rfl ?_); refine goesL_ (some 13) rfl rfl Tryz.func116 (by kernel_rfl) rfl #[.int .i64 a0] rfl (by (try simp only [List.map_toArray, List.map_cons, List.map_nil]); first | done | rfl | (simp only [List.length_drop, List.length_take]; rfl)) ?_; (with_reducible refine (num_Good.calls a0 true _ A5.out).mono ?_); rintro e w' ⟨rfl, ⟨nd, rfl⟩⟩; refine ⟨_, rfl, ?_⟩))
    go_meet
    case rel => exact ⟨_, (true), zrl, H', ⟨by first | omega | exact Nat.le_refl _⟩, zdn⟩
   ·rw [if_neg c7] at H
    have c7b0 : decide (a1 < (-8)) = false := decide_eq_false c7
    clear c7
    (first | rw [c7b0] | (simp only [i64_w, i32_w]; rw [c7b0]) | skip)
    by_cases c8 : a1 > 4
    ·rw [if_pos c8] at H
     have c8b0 : decide (4 < a1) = true := decide_eq_true c8
     clear c8
     have H' := Aside0.mk H
     clear H
     go_wp2_with (first | ((with_reducible refine gate_callee (f := 116) rfl ?_); refine goesL_ (some 13) rfl rfl Tryz.func116 (by kernel_rfl) rfl #[.int .i64 a0] rfl (by (try simp only [List.map_toArray, List.map_cons, List.map_nil]); first | done | rfl | (simp only [List.length_drop, List.length_take]; rfl)) ?_; (with_reducible refine (num_Good.calls a0 true _ A5.out).mono ?_); rintro e w' ⟨rfl, ⟨nd, rfl⟩⟩; refine ⟨_, rfl, ?_⟩))
     go_meet
     case rel => exact ⟨_, (true), zrl, H', ⟨by first | omega | exact Nat.le_refl _⟩, zdn⟩
    ·rw [if_neg c8] at H
     have c8b0 : decide (4 < a1) = false := decide_eq_false c8
     clear c8
     by_cases c9 : a2 < 0
     ·rw [if_pos c9] at H
      have c9b0 : decide (a2 < 0) = true := decide_eq_true c9
      clear c9
      have H' := Aside0.mk H
      clear H
      go_wp2_with (first | ((with_reducible refine gate_callee (f := 116) rfl ?_); refine goesL_ (some 13) rfl rfl Tryz.func116 (by kernel_rfl) rfl #[.int .i64 a0] rfl (by (try simp only [List.map_toArray, List.map_cons, List.map_nil]); first | done | rfl | (simp only [List.length_drop, List.length_take]; rfl)) ?_; (with_reducible refine (num_Good.calls a0 true _ A5.out).mono ?_); rintro e w' ⟨rfl, ⟨nd, rfl⟩⟩; refine ⟨_, rfl, ?_⟩))
      go_meet
      case rel => exact ⟨_, (true), zrl, H', ⟨by first | omega | exact Nat.le_refl _⟩, zdn⟩
     ·rw [if_neg c9] at H
      have c9b0 : decide (a2 < 0) = false := decide_eq_false c9
      clear c9
      have H' := Aside0.mk H
      clear H
      go_wp2_with (first | ((with_reducible refine gate_callee (f := 116) rfl ?_); refine goesL_ (some 13) rfl rfl Tryz.func116 (by kernel_rfl) rfl #[.int .i64 a0] rfl (by (try simp only [List.map_toArray, List.map_cons, List.map_nil]); first | done | rfl | (simp only [List.length_drop, List.length_take]; rfl)) ?_; (with_reducible refine (num_Good.calls a0 true _ A5.out).mono ?_); rintro e w' ⟨rfl, ⟨nd, rfl⟩⟩; refine ⟨_, rfl, ?_⟩))
      go_meet
      case rel => exact ⟨_, (decide (a2 > 4)), zrl, H', ⟨by first | omega | exact Nat.le_refl _⟩, zdn⟩
  ·replace c6 := Bool.eq_false_iff.mpr c6
   subst c6
   have H1 : (num_Round.j0 k a0 a1 a2 true) = some (r1, r2) := by rw [if_neg (show ¬ (false = true) by decide)] at H; exact H
   clear H
   have H := H1
   clear H1
   have H' := Aside0.mk H
   clear H
   go_wp2_with (first | ((with_reducible refine gate_callee (f := 116) rfl ?_); refine goesL_ (some 13) rfl rfl Tryz.func116 (by kernel_rfl) rfl #[.int .i64 a0] rfl (by (try simp only [List.map_toArray, List.map_cons, List.map_nil]); first | done | rfl | (simp only [List.length_drop, List.length_take]; rfl)) ?_; (with_reducible refine (num_Good.calls a0 false _ A5.out).mono ?_); rintro e w' ⟨rfl, ⟨nd, rfl⟩⟩; refine ⟨_, rfl, ?_⟩))
   go_meet
   case rel => exact ⟨_, (true), zrl, H', ⟨by first | omega | exact Nat.le_refl _⟩, zdn⟩
 case rest =>
  clear HC4
  try clear c1
  try clear p2
  try clear c6
  try clear c7
  try clear c7b0
  try clear c8
  try clear c8b0
  try clear c9
  try clear c9b0
  obtain ⟨kq, x30_3, rfl, HA, HJ3, ⟨mc3, rfl⟩⟩ := hcut
  cases kq with
  | zero => exact absurd HA.out (by simp [num_Round.j0])
  | succ kj3 =>
   have H := HA.out
   clear HA
   simp only [num_Round.j0] at H
   by_cases c10 : x30_3 = true
   ·subst c10
    have H1 : (some (0, false)) = some (r1, r2) := by rw [if_pos rfl] at H; exact H
    clear H
    have H := H1
    clear H1
    simp only [Option.some.injEq, Prod.mk.injEq] at H
    obtain ⟨rfl, rfl⟩ := H
    go_wp2
    go_ret2
    exact ⟨zrl, zdn⟩
   ·replace c10 := Bool.eq_false_iff.mpr c10
    subst c10
    have H1 : (num_Round.l0 kj3 a0 a2 1 (wrap64 (4 - a1)) 0) = some (r1, r2) := by rw [if_neg (show ¬ (false = true) by decide)] at H; exact H
    clear H
    have H := H1
    clear H1
    have H' := Aside0.mk H
    clear H
    go_wp2
    go_loopg [8, 33] kj3 (fun kq v8 v33 w' => ∃ (x8_2 : Int) (x33_2 : Int), v8 = .int .i64 x8_2 ∧ v33 = .int .i64 x33_2 ∧ Aside0 (num_Round.l0 kq a0 a2 x8_2 (wrap64 (4 - a1)) x33_2 = some (r1, r2)) ∧ Aside0 (kq ≤ kj3) ∧ Drawn0 w w')
    case atStart => exact ⟨(1), (0), zrl, zrl, H', ⟨Nat.le_refl _⟩, zdn⟩
    case round =>
     clear H'
     try clear c1
     try clear p2
     try clear c3
     try clear c6
     try clear p6
     try clear c7
     try clear c7b0
     try clear c8
     try clear c8b0
     try clear c9
     try clear c9b0
     try clear c10
     try clear p2
     obtain ⟨x8_2, x33_2, rfl, rfl, HA, HK2, ⟨m2, rfl⟩⟩ := hrel
     cases gk with
     | zero => exact absurd HA.out (by simp [num_Round.l0])
     | succ k2 =>
      have H := HA.out
      clear HA
      simp only [num_Round.l0] at H
      by_cases c11 : x33_2 < (wrap64 (4 - a1))
      ·rw [if_pos c11] at H
       have c11b0 : decide (x33_2 < (wrap64 (4 - a1))) = true := decide_eq_true c11
       clear c11
       have H' := Aside0.mk H
       clear H
       go_wp2
       go_roundg k2
       case measure => have := HJ3.out; have := HK2.out; omega
       case rel => exact ⟨(wrap64 (x8_2 * 10)), (wrap64 (x33_2 + 1)), zrl, zrl, H', ⟨by have := HJ3.out; have := HK2.out; omega⟩, zdn⟩
      ·rw [if_neg c11] at H
       have c11b0 : decide (x33_2 < (wrap64 (4 - a1))) = false := decide_eq_false c11
       clear c11
       replace H := Option.bind_eq_some_iff.mp H
       obtain ⟨t129, A120, H⟩ := H
       replace H : (if (wrap64 (a0 - (wrap64 (t129 * x8_2)))) = 0 then (some (a0, true)) else (if (wrap64 (2 * (wrap64 (a0 - (wrap64 (t129 * x8_2)))))) > x8_2 then (if 0 ≤ a2 then (if a2 < 5 then (if (rdOf false ([true, decide (a0 > 0), decide (a0 < 0), true, false] : List Bool) a2) = true then ((num_told.f (wrap64 ((wrap64 (a0 - (wrap64 (a0 - (wrap64 (t129 * x8_2)))))) + x8_2))).bind fun bt130 => (some (bt130.1, bt130.2))) else ((num_told.f (wrap64 (a0 - (wrap64 (a0 - (wrap64 (t129 * x8_2))))))).bind fun bt132 => (some (bt132.1, bt132.2)))) else (none)) else (none)) else (if (wrap64 (2 * (wrap64 (a0 - (wrap64 (t129 * x8_2)))))) = x8_2 then (if 0 ≤ a2 then (if a2 < 5 then (if (rdOf false ([decide (a0 > 0), decide (a0 > 0), decide (a0 < 0), true, false] : List Bool) a2) = true then ((num_told.f (wrap64 ((wrap64 (a0 - (wrap64 (a0 - (wrap64 (t129 * x8_2)))))) + x8_2))).bind fun bt134 => (some (bt134.1, bt134.2))) else ((num_told.f (wrap64 (a0 - (wrap64 (a0 - (wrap64 (t129 * x8_2))))))).bind fun bt136 => (some (bt136.1, bt136.2)))) else (none)) else (none)) else (if 0 ≤ a2 then (if a2 < 5 then (if (rdOf false ([false, decide (a0 > 0), decide (a0 < 0), true, false] : List Bool) a2) = true then ((num_told.f (wrap64 ((wrap64 (a0 - (wrap64 (a0 - (wrap64 (t129 * x8_2)))))) + x8_2))).bind fun bt138 => (some (bt138.1, bt138.2))) else ((num_told.f (wrap64 (a0 - (wrap64 (a0 - (wrap64 (t129 * x8_2))))))).bind fun bt140 => (some (bt140.1, bt140.2)))) else (none)) else (none))))) = some (r1, r2) := H
       have A12 := Aside0.mk A120
       clear A120
       by_cases c13 : (wrap64 (a0 - (wrap64 (t129 * x8_2)))) = 0
       ·rw [if_pos c13] at H
        have c13b0 : ((wrap64 (a0 - (wrap64 (t129 * x8_2)))) == 0) = true := beq_iff_eq.mpr c13
        have c13b1 : ((wrap64 (a0 - (wrap64 (t129 * x8_2)))) != 0) = false := bne_eq_false_iff_eq.mpr c13
        clear c13
        simp only [Option.some.injEq, Prod.mk.injEq] at H
        obtain ⟨rfl, rfl⟩ := H
        go_wp2_with (first | ((with_reducible refine gate_callee (f := 165) rfl ?_); refine goesL_ (some 41) rfl rfl Tryz.func165 (by kernel_rfl) rfl #[.int .i64 a0, .int .i64 x8_2] rfl (by (try simp only [List.map_toArray, List.map_cons, List.map_nil]); first | done | rfl | (simp only [List.length_drop, List.length_take]; rfl)) ?_; (with_reducible refine (num_floor.calls a0 x8_2 t129 _ A12.out).mono ?_); rintro e w' ⟨rfl, ⟨nd, rfl⟩⟩; refine ⟨_, rfl, ?_⟩))
        go_ret2
        exact ⟨zrl, zdn⟩
       ·rw [if_neg c13] at H
        have c13b0 : ((wrap64 (a0 - (wrap64 (t129 * x8_2)))) == 0) = false := beq_eq_false_iff_ne.mpr c13
        have c13b1 : ((wrap64 (a0 - (wrap64 (t129 * x8_2)))) != 0) = true := bne_iff_ne.mpr c13
        by_cases c14 : (wrap64 (2 * (wrap64 (a0 - (wrap64 (t129 * x8_2)))))) > x8_2
        ·rw [if_pos c14] at H
         have c14b0 : decide (x8_2 < (wrap64 (2 * (wrap64 (a0 - (wrap64 (t129 * x8_2))))))) = true := decide_eq_true c14
         clear c14
         by_cases c15 : 0 ≤ a2
         ·rw [if_pos c15] at H
          have c15b0 : decide (0 ≤ a2) = true := decide_eq_true c15
          clear c15
          by_cases c16 : a2 < 5
          ·rw [if_pos c16] at H
           have c16b0 : decide (a2 < 5) = true := decide_eq_true c16
           clear c16
           obtain ⟨bq18, hbq18⟩ : ∃ b_ : Bool, b_ = ((rdOf false ([true, decide (a0 > 0), decide (a0 < 0), true, false] : List Bool) a2)) := ⟨_, rfl⟩
           replace H : (if bq18 = true then ((num_told.f (wrap64 ((wrap64 (a0 - (wrap64 (a0 - (wrap64 (t129 * x8_2)))))) + x8_2))).bind fun bt130 => (some (bt130.1, bt130.2))) else ((num_told.f (wrap64 (a0 - (wrap64 (a0 - (wrap64 (t129 * x8_2))))))).bind fun bt132 => (some (bt132.1, bt132.2)))) = some (r1, r2) := by rw [← hbq18] at H; exact H
           have Nbq18 := Aside0.mk hbq18
           clear hbq18
           by_cases c19 : bq18 = true
           ·subst c19
            have H1 : ((num_told.f (wrap64 ((wrap64 (a0 - (wrap64 (a0 - (wrap64 (t129 * x8_2)))))) + x8_2))).bind fun bt130 => (some (bt130.1, bt130.2))) = some (r1, r2) := by rw [if_pos rfl] at H; exact H
            clear H
            have H := H1
            clear H1
            replace H := Option.bind_eq_some_iff.mp H
            obtain ⟨⟨t130, t131⟩, A200, H⟩ := H
            replace H : (some (t130, t131)) = some (r1, r2) := H
            have A20 := Aside0.mk A200
            clear A200
            simp only [Option.some.injEq, Prod.mk.injEq] at H
            obtain ⟨rfl, rfl⟩ := H
            go_wp2_with (first | ((with_reducible refine gate_callee (f := 165) rfl ?_); refine goesL_ (some 41) rfl rfl Tryz.func165 (by kernel_rfl) rfl #[.int .i64 a0, .int .i64 x8_2] rfl (by (try simp only [List.map_toArray, List.map_cons, List.map_nil]); first | done | rfl | (simp only [List.length_drop, List.length_take]; rfl)) ?_; (with_reducible refine (num_floor.calls a0 x8_2 t129 _ A12.out).mono ?_); rintro e w' ⟨rfl, ⟨nd, rfl⟩⟩; refine ⟨_, rfl, ?_⟩; have p17 : 0 ≤ (a2 : Int) := of_decide_eq_true zas; have q17 : a2 < (5 : Int) := of_decide_eq_true zas; have hx17 : ∀ w_ : World, (Instr.index 145 (.agg #[.bool true, .bool (decide (a0 > 0)), .bool (decide (a0 < 0)), .bool true, .bool false]) (.int .i64 a2)).run Tryz.prog w_ = .ok (.bool (rdOf false ([true, decide (a0 > 0), decide (a0 < 0), true, false] : List Bool) a2)) w_ := fun w_ => X.run_index_array 145 4 5 _ _ _ _ (by kernel_rfl) (by kernel_rfl) (by kernel_rfl) p17 q17 (X.at_bools ([true, decide (a0 > 0), decide (a0 < 0), true, false] : List Bool) a2 q17 p17); (try rw [← Nbq18.out] at hx17); replace p17 := eq_true p17; replace q17 := eq_true q17) | ((with_reducible refine gate_callee (f := 156) rfl ?_); refine goesL_ (some 77) rfl rfl Tryz.func156 (by kernel_rfl) rfl #[.int .i64 (wrap64 ((wrap64 (a0 - (wrap64 (a0 - (wrap64 (t129 * x8_2)))))) + x8_2))] rfl (by (try simp only [List.map_toArray, List.map_cons, List.map_nil]); first | done | rfl | (simp only [List.length_drop, List.length_take]; rfl)) ?_; (with_reducible refine (num_told.calls (wrap64 ((wrap64 (a0 - (wrap64 (a0 - (wrap64 (t129 * x8_2)))))) + x8_2)) t130 t131 _ A20.out).mono ?_); rintro e w' ⟨rfl, ⟨nd, rfl⟩⟩; refine ⟨_, rfl, ?_⟩))
            go_ret2
            exact ⟨zrl, zdn⟩
           ·replace c19 := Bool.eq_false_iff.mpr c19
            subst c19
            have H1 : ((num_told.f (wrap64 (a0 - (wrap64 (a0 - (wrap64 (t129 * x8_2))))))).bind fun bt132 => (some (bt132.1, bt132.2))) = some (r1, r2) := by rw [if_neg (show ¬ (false = true) by decide)] at H; exact H
            clear H
            have H := H1
            clear H1
            replace H := Option.bind_eq_some_iff.mp H
            obtain ⟨⟨t132, t133⟩, A210, H⟩ := H
            replace H : (some (t132, t133)) = some (r1, r2) := H
            have A21 := Aside0.mk A210
            clear A210
            simp only [Option.some.injEq, Prod.mk.injEq] at H
            obtain ⟨rfl, rfl⟩ := H
            go_wp2_with (first | ((with_reducible refine gate_callee (f := 165) rfl ?_); refine goesL_ (some 41) rfl rfl Tryz.func165 (by kernel_rfl) rfl #[.int .i64 a0, .int .i64 x8_2] rfl (by (try simp only [List.map_toArray, List.map_cons, List.map_nil]); first | done | rfl | (simp only [List.length_drop, List.length_take]; rfl)) ?_; (with_reducible refine (num_floor.calls a0 x8_2 t129 _ A12.out).mono ?_); rintro e w' ⟨rfl, ⟨nd, rfl⟩⟩; refine ⟨_, rfl, ?_⟩; have p17 : 0 ≤ (a2 : Int) := of_decide_eq_true zas; have q17 : a2 < (5 : Int) := of_decide_eq_true zas; have hx17 : ∀ w_ : World, (Instr.index 145 (.agg #[.bool true, .bool (decide (a0 > 0)), .bool (decide (a0 < 0)), .bool true, .bool false]) (.int .i64 a2)).run Tryz.prog w_ = .ok (.bool (rdOf false ([true, decide (a0 > 0), decide (a0 < 0), true, false] : List Bool) a2)) w_ := fun w_ => X.run_index_array 145 4 5 _ _ _ _ (by kernel_rfl) (by kernel_rfl) (by kernel_rfl) p17 q17 (X.at_bools ([true, decide (a0 > 0), decide (a0 < 0), true, false] : List Bool) a2 q17 p17); (try rw [← Nbq18.out] at hx17); replace p17 := eq_true p17; replace q17 := eq_true q17) | ((with_reducible refine gate_callee (f := 156) rfl ?_); refine goesL_ (some 77) rfl rfl Tryz.func156 (by kernel_rfl) rfl #[.int .i64 (wrap64 (a0 - (wrap64 (a0 - (wrap64 (t129 * x8_2))))))] rfl (by (try simp only [List.map_toArray, List.map_cons, List.map_nil]); first | done | rfl | (simp only [List.length_drop, List.length_take]; rfl)) ?_; (with_reducible refine (num_told.calls (wrap64 (a0 - (wrap64 (a0 - (wrap64 (t129 * x8_2)))))) t132 t133 _ A21.out).mono ?_); rintro e w' ⟨rfl, ⟨nd, rfl⟩⟩; refine ⟨_, rfl, ?_⟩))
            go_ret2
            exact ⟨zrl, zdn⟩
          ·rw [if_neg c16] at H
           exact absurd H (by simp)
         ·rw [if_neg c15] at H
          exact absurd H (by simp)
        ·rw [if_neg c14] at H
         have c14b0 : decide (x8_2 < (wrap64 (2 * (wrap64 (a0 - (wrap64 (t129 * x8_2))))))) = false := decide_eq_false c14
         clear c14
         by_cases c22 : (wrap64 (2 * (wrap64 (a0 - (wrap64 (t129 * x8_2)))))) = x8_2
         ·rw [if_pos c22] at H
          have c22b0 : ((wrap64 (2 * (wrap64 (a0 - (wrap64 (t129 * x8_2)))))) == x8_2) = true := beq_iff_eq.mpr c22
          have c22b1 : ((wrap64 (2 * (wrap64 (a0 - (wrap64 (t129 * x8_2)))))) != x8_2) = false := bne_eq_false_iff_eq.mpr c22
          clear c22
          by_cases c23 : 0 ≤ a2
          ·rw [if_pos c23] at H
           have c23b0 : decide (0 ≤ a2) = true := decide_eq_true c23
           clear c23
           by_cases c24 : a2 < 5
           ·rw [if_pos c24] at H
            have c24b0 : decide (a2 < 5) = true := decide_eq_true c24
            clear c24
            obtain ⟨bq26, hbq26⟩ : ∃ b_ : Bool, b_ = ((rdOf false ([decide (a0 > 0), decide (a0 > 0), decide (a0 < 0), true, false] : List Bool) a2)) := ⟨_, rfl⟩
            replace H : (if bq26 = true then ((num_told.f (wrap64 ((wrap64 (a0 - (wrap64 (a0 - (wrap64 (t129 * x8_2)))))) + x8_2))).bind fun bt134 => (some (bt134.1, bt134.2))) else ((num_told.f (wrap64 (a0 - (wrap64 (a0 - (wrap64 (t129 * x8_2))))))).bind fun bt136 => (some (bt136.1, bt136.2)))) = some (r1, r2) := by rw [← hbq26] at H; exact H
            have Nbq26 := Aside0.mk hbq26
            clear hbq26
            by_cases c27 : bq26 = true
            ·subst c27
             have H1 : ((num_told.f (wrap64 ((wrap64 (a0 - (wrap64 (a0 - (wrap64 (t129 * x8_2)))))) + x8_2))).bind fun bt134 => (some (bt134.1, bt134.2))) = some (r1, r2) := by rw [if_pos rfl] at H; exact H
             clear H
             have H := H1
             clear H1
             replace H := Option.bind_eq_some_iff.mp H
             obtain ⟨⟨t134, t135⟩, A280, H⟩ := H
             replace H : (some (t134, t135)) = some (r1, r2) := H
             have A28 := Aside0.mk A280
             clear A280
             simp only [Option.some.injEq, Prod.mk.injEq] at H
             obtain ⟨rfl, rfl⟩ := H
             go_wp2_with (first | ((with_reducible refine gate_callee (f := 165) rfl ?_); refine goesL_ (some 41) rfl rfl Tryz.func165 (by kernel_rfl) rfl #[.int .i64 a0, .int .i64 x8_2] rfl (by (try simp only [List.map_toArray, List.map_cons, List.map_nil]); first | done | rfl | (simp only [List.length_drop, List.length_take]; rfl)) ?_; (with_reducible refine (num_floor.calls a0 x8_2 t129 _ A12.out).mono ?_); rintro e w' ⟨rfl, ⟨nd, rfl⟩⟩; refine ⟨_, rfl, ?_⟩; have p25 : 0 ≤ (a2 : Int) := of_decide_eq_true zas; have q25 : a2 < (5 : Int) := of_decide_eq_true zas; have hx25 : ∀ w_ : World, (Instr.index 145 (.agg #[.bool (decide (a0 > 0)), .bool (decide (a0 > 0)), .bool (decide (a0 < 0)), .bool true, .bool false]) (.int .i64 a2)).run Tryz.prog w_ = .ok (.bool (rdOf false ([decide (a0 > 0), decide (a0 > 0), decide (a0 < 0), true, false] : List Bool) a2)) w_ := fun w_ => X.run_index_array 145 4 5 _ _ _ _ (by kernel_rfl) (by kernel_rfl) (by kernel_rfl) p25 q25 (X.at_bools ([decide (a0 > 0), decide (a0 > 0), decide (a0 < 0), true, false] : List Bool) a2 q25 p25); (try rw [← Nbq26.out] at hx25); replace p25 := eq_true p25; replace q25 := eq_true q25) | ((with_reducible refine gate_callee (f := 156) rfl ?_); refine goesL_ (some 77) rfl rfl Tryz.func156 (by kernel_rfl) rfl #[.int .i64 (wrap64 ((wrap64 (a0 - (wrap64 (a0 - (wrap64 (t129 * x8_2)))))) + x8_2))] rfl (by (try simp only [List.map_toArray, List.map_cons, List.map_nil]); first | done | rfl | (simp only [List.length_drop, List.length_take]; rfl)) ?_; (with_reducible refine (num_told.calls (wrap64 ((wrap64 (a0 - (wrap64 (a0 - (wrap64 (t129 * x8_2)))))) + x8_2)) t134 t135 _ A28.out).mono ?_); rintro e w' ⟨rfl, ⟨nd, rfl⟩⟩; refine ⟨_, rfl, ?_⟩))
             go_ret2
             exact ⟨zrl, zdn⟩
            ·replace c27 := Bool.eq_false_iff.mpr c27
             subst c27
             have H1 : ((num_told.f (wrap64 (a0 - (wrap64 (a0 - (wrap64 (t129 * x8_2))))))).bind fun bt136 => (some (bt136.1, bt136.2))) = some (r1, r2) := by rw [if_neg (show ¬ (false = true) by decide)] at H; exact H
             clear H
             have H := H1
             clear H1
             replace H := Option.bind_eq_some_iff.mp H
             obtain ⟨⟨t136, t137⟩, A290, H⟩ := H
             replace H : (some (t136, t137)) = some (r1, r2) := H
             have A29 := Aside0.mk A290
             clear A290
             simp only [Option.some.injEq, Prod.mk.injEq] at H
             obtain ⟨rfl, rfl⟩ := H
             go_wp2_with (first | ((with_reducible refine gate_callee (f := 165) rfl ?_); refine goesL_ (some 41) rfl rfl Tryz.func165 (by kernel_rfl) rfl #[.int .i64 a0, .int .i64 x8_2] rfl (by (try simp only [List.map_toArray, List.map_cons, List.map_nil]); first | done | rfl | (simp only [List.length_drop, List.length_take]; rfl)) ?_; (with_reducible refine (num_floor.calls a0 x8_2 t129 _ A12.out).mono ?_); rintro e w' ⟨rfl, ⟨nd, rfl⟩⟩; refine ⟨_, rfl, ?_⟩; have p25 : 0 ≤ (a2 : Int) := of_decide_eq_true zas; have q25 : a2 < (5 : Int) := of_decide_eq_true zas; have hx25 : ∀ w_ : World, (Instr.index 145 (.agg #[.bool (decide (a0 > 0)), .bool (decide (a0 > 0)), .bool (decide (a0 < 0)), .bool true, .bool false]) (.int .i64 a2)).run Tryz.prog w_ = .ok (.bool (rdOf false ([decide (a0 > 0), decide (a0 > 0), decide (a0 < 0), true, false] : List Bool) a2)) w_ := fun w_ => X.run_index_array 145 4 5 _ _ _ _ (by kernel_rfl) (by kernel_rfl) (by kernel_rfl) p25 q25 (X.at_bools ([decide (a0 > 0), decide (a0 > 0), decide (a0 < 0), true, false] : List Bool) a2 q25 p25); (try rw [← Nbq26.out] at hx25); replace p25 := eq_true p25; replace q25 := eq_true q25) | ((with_reducible refine gate_callee (f := 156) rfl ?_); refine goesL_ (some 77) rfl rfl Tryz.func156 (by kernel_rfl) rfl #[.int .i64 (wrap64 (a0 - (wrap64 (a0 - (wrap64 (t129 * x8_2))))))] rfl (by (try simp only [List.map_toArray, List.map_cons, List.map_nil]); first | done | rfl | (simp only [List.length_drop, List.length_take]; rfl)) ?_; (with_reducible refine (num_told.calls (wrap64 (a0 - (wrap64 (a0 - (wrap64 (t129 * x8_2)))))) t136 t137 _ A29.out).mono ?_); rintro e w' ⟨rfl, ⟨nd, rfl⟩⟩; refine ⟨_, rfl, ?_⟩))
             go_ret2
             exact ⟨zrl, zdn⟩
           ·rw [if_neg c24] at H
            exact absurd H (by simp)
          ·rw [if_neg c23] at H
           exact absurd H (by simp)
         ·rw [if_neg c22] at H
          have c22b0 : ((wrap64 (2 * (wrap64 (a0 - (wrap64 (t129 * x8_2)))))) == x8_2) = false := beq_eq_false_iff_ne.mpr c22
          have c22b1 : ((wrap64 (2 * (wrap64 (a0 - (wrap64 (t129 * x8_2)))))) != x8_2) = true := bne_iff_ne.mpr c22
          by_cases c30 : 0 ≤ a2
          ·rw [if_pos c30] at H
           have c30b0 : decide (0 ≤ a2) = true := decide_eq_true c30
           clear c30
           by_cases c31 : a2 < 5
           ·rw [if_pos c31] at H
            have c31b0 : decide (a2 < 5) = true := decide_eq_true c31
            clear c31
            obtain ⟨bq33, hbq33⟩ : ∃ b_ : Bool, b_ = ((rdOf false ([false, decide (a0 > 0), decide (a0 < 0), true, false] : List Bool) a2)) := ⟨_, rfl⟩
            replace H : (if bq33 = true then ((num_told.f (wrap64 ((wrap64 (a0 - (wrap64 (a0 - (wrap64 (t129 * x8_2)))))) + x8_2))).bind fun bt138 => (some (bt138.1, bt138.2))) else ((num_told.f (wrap64 (a0 - (wrap64 (a0 - (wrap64 (t129 * x8_2))))))).bind fun bt140 => (some (bt140.1, bt140.2)))) = some (r1, r2) := by rw [← hbq33] at H; exact H
            have Nbq33 := Aside0.mk hbq33
            clear hbq33
            by_cases c34 : bq33 = true
            ·subst c34
             have H1 : ((num_told.f (wrap64 ((wrap64 (a0 - (wrap64 (a0 - (wrap64 (t129 * x8_2)))))) + x8_2))).bind fun bt138 => (some (bt138.1, bt138.2))) = some (r1, r2) := by rw [if_pos rfl] at H; exact H
             clear H
             have H := H1
             clear H1
             replace H := Option.bind_eq_some_iff.mp H
             obtain ⟨⟨t138, t139⟩, A350, H⟩ := H
             replace H : (some (t138, t139)) = some (r1, r2) := H
             have A35 := Aside0.mk A350
             clear A350
             simp only [Option.some.injEq, Prod.mk.injEq] at H
             obtain ⟨rfl, rfl⟩ := H
             go_wp2_with (first | ((with_reducible refine gate_callee (f := 165) rfl ?_); refine goesL_ (some 41) rfl rfl Tryz.func165 (by kernel_rfl) rfl #[.int .i64 a0, .int .i64 x8_2] rfl (by (try simp only [List.map_toArray, List.map_cons, List.map_nil]); first | done | rfl | (simp only [List.length_drop, List.length_take]; rfl)) ?_; (with_reducible refine (num_floor.calls a0 x8_2 t129 _ A12.out).mono ?_); rintro e w' ⟨rfl, ⟨nd, rfl⟩⟩; refine ⟨_, rfl, ?_⟩; have p32 : 0 ≤ (a2 : Int) := of_decide_eq_true zas; have q32 : a2 < (5 : Int) := of_decide_eq_true zas; have hx32 : ∀ w_ : World, (Instr.index 145 (.agg #[.bool false, .bool (decide (a0 > 0)), .bool (decide (a0 < 0)), .bool true, .bool false]) (.int .i64 a2)).run Tryz.prog w_ = .ok (.bool (rdOf false ([false, decide (a0 > 0), decide (a0 < 0), true, false] : List Bool) a2)) w_ := fun w_ => X.run_index_array 145 4 5 _ _ _ _ (by kernel_rfl) (by kernel_rfl) (by kernel_rfl) p32 q32 (X.at_bools ([false, decide (a0 > 0), decide (a0 < 0), true, false] : List Bool) a2 q32 p32); (try rw [← Nbq33.out] at hx32); replace p32 := eq_true p32; replace q32 := eq_true q32) | ((with_reducible refine gate_callee (f := 156) rfl ?_); refine goesL_ (some 77) rfl rfl Tryz.func156 (by kernel_rfl) rfl #[.int .i64 (wrap64 ((wrap64 (a0 - (wrap64 (a0 - (wrap64 (t129 * x8_2)))))) + x8_2))] rfl (by (try simp only [List.map_toArray, List.map_cons, List.map_nil]); first | done | rfl | (simp only [List.length_drop, List.length_take]; rfl)) ?_; (with_reducible refine (num_told.calls (wrap64 ((wrap64 (a0 - (wrap64 (a0 - (wrap64 (t129 * x8_2)))))) + x8_2)) t138 t139 _ A35.out).mono ?_); rintro e w' ⟨rfl, ⟨nd, rfl⟩⟩; refine ⟨_, rfl, ?_⟩))
             go_ret2
             exact ⟨zrl, zdn⟩
            ·replace c34 := Bool.eq_false_iff.mpr c34
             subst c34
             have H1 : ((num_told.f (wrap64 (a0 - (wrap64 (a0 - (wrap64 (t129 * x8_2))))))).bind fun bt140 => (some (bt140.1, bt140.2))) = some (r1, r2) := by rw [if_neg (show ¬ (false = true) by decide)] at H; exact H
             clear H
             have H := H1
             clear H1
             replace H := Option.bind_eq_some_iff.mp H
             obtain ⟨⟨t140, t141⟩, A360, H⟩ := H
             replace H : (some (t140, t141)) = some (r1, r2) := H
             have A36 := Aside0.mk A360
             clear A360
             simp only [Option.some.injEq, Prod.mk.injEq] at H
             obtain ⟨rfl, rfl⟩ := H
             go_wp2_with (first | ((with_reducible refine gate_callee (f := 165) rfl ?_); refine goesL_ (some 41) rfl rfl Tryz.func165 (by kernel_rfl) rfl #[.int .i64 a0, .int .i64 x8_2] rfl (by (try simp only [List.map_toArray, List.map_cons, List.map_nil]); first | done | rfl | (simp only [List.length_drop, List.length_take]; rfl)) ?_; (with_reducible refine (num_floor.calls a0 x8_2 t129 _ A12.out).mono ?_); rintro e w' ⟨rfl, ⟨nd, rfl⟩⟩; refine ⟨_, rfl, ?_⟩; have p32 : 0 ≤ (a2 : Int) := of_decide_eq_true zas; have q32 : a2 < (5 : Int) := of_decide_eq_true zas; have hx32 : ∀ w_ : World, (Instr.index 145 (.agg #[.bool false, .bool (decide (a0 > 0)), .bool (decide (a0 < 0)), .bool true, .bool false]) (.int .i64 a2)).run Tryz.prog w_ = .ok (.bool (rdOf false ([false, decide (a0 > 0), decide (a0 < 0), true, false] : List Bool) a2)) w_ := fun w_ => X.run_index_array 145 4 5 _ _ _ _ (by kernel_rfl) (by kernel_rfl) (by kernel_rfl) p32 q32 (X.at_bools ([false, decide (a0 > 0), decide (a0 < 0), true, false] : List Bool) a2 q32 p32); (try rw [← Nbq33.out] at hx32); replace p32 := eq_true p32; replace q32 := eq_true q32) | ((with_reducible refine gate_callee (f := 156) rfl ?_); refine goesL_ (some 77) rfl rfl Tryz.func156 (by kernel_rfl) rfl #[.int .i64 (wrap64 (a0 - (wrap64 (a0 - (wrap64 (t129 * x8_2))))))] rfl (by (try simp only [List.map_toArray, List.map_cons, List.map_nil]); first | done | rfl | (simp only [List.length_drop, List.length_take]; rfl)) ?_; (with_reducible refine (num_told.calls (wrap64 (a0 - (wrap64 (a0 - (wrap64 (t129 * x8_2)))))) t140 t141 _ A36.out).mono ?_); rintro e w' ⟨rfl, ⟨nd, rfl⟩⟩; refine ⟨_, rfl, ?_⟩))
             go_ret2
             exact ⟨zrl, zdn⟩
           ·rw [if_neg c31] at H
            exact absurd H (by simp)
          ·rw [if_neg c30] at H
           exact absurd H (by simp)
def octavoref05_Digits.l0 : Nat → Int → ByteArray → Option (ByteArray)
 | 0, _, _ => none
 | k + 1, x0, x3 => (some (([(IntKind.u64.wrap (48 + (Int.tmod x0 10))) % 256] : List Int) : List Int)).bind fun y142 => (if (strOfNums y142).size + x3.size ≤ 9223372036854775807 then (if (IntKind.u64.wrap (Int.tdiv x0 10)) = 0 then (some ((strOfNums y142) ++ x3)) else (octavoref05_Digits.l0 k (IntKind.u64.wrap (Int.tdiv x0 10)) ((strOfNums y142) ++ x3))) else (none))
def octavoref05_Digits.f (k : Nat) (a0 : Int) : Option (ByteArray) := octavoref05_Digits.l0 k a0 (⟨#[]⟩ : ByteArray)
theorem octavoref05_Digits.mono_l : ∀ k, (∀ y0 y1, LeO (octavoref05_Digits.l0 k y0 y1) (octavoref05_Digits.l0 (k + 1) y0 y1))
 | 0 => fun _ _ r h => by simp [octavoref05_Digits.l0] at h
 | k + 1 => by
  have ih0 := octavoref05_Digits.mono_l k
  ·intro y0 y1
   unfold octavoref05_Digits.l0
   repeat' first
   | (with_reducible exact ih0 _ _)
   | (with_reducible exact LeO.refl _)
   | (with_reducible exact LeO.none _)
   | (with_reducible refine LeO.ite ?_ ?_)
   | (with_reducible refine LeO.bind ?_ (fun _ => ?_))
   | exact ih0 _ _
   | exact LeO.none _
   | refine LeO.ite ?_ ?_
   | refine LeO.bind ?_ (fun _ => ?_)
theorem octavoref05_Digits.mono : ∀ a0 k, LeO (octavoref05_Digits.f k a0) (octavoref05_Digits.f (k + 1) a0) := by
 intro a0 k
 have ih0 := octavoref05_Digits.mono_l k
 unfold octavoref05_Digits.f
 repeat' first
   | (with_reducible exact ih0 _ _)
   | (with_reducible exact LeO.refl _)
   | (with_reducible exact LeO.none _)
   | (with_reducible refine LeO.ite ?_ ?_)
   | (with_reducible refine LeO.bind ?_ (fun _ => ?_))
   | exact ih0 _ _
   | exact LeO.none _
   | refine LeO.ite ?_ ?_
   | refine LeO.bind ?_ (fun _ => ?_)
set_option maxHeartbeats 8000000 in
set_option maxRecDepth 100000 in
theorem octavoref05_Digits.calls (k : Nat) (a0 : Int) (r : ByteArray) (w : World) (h : octavoref05_Digits.f k a0 = some r) :
  Calls Tryz.prog 148 #[.int .u64 a0] w fun e w' => e = .returned (.string r) ∧ Below w.heap.size w w' := by
 have HB := Aside0.mk (Below.refl w.heap.size w)
 have H : (octavoref05_Digits.l0 k a0 (⟨#[]⟩ : ByteArray)) = some r := h
 clear h
 have H' := Aside0.mk H
 clear H
 go_enter Tryz.func148, Tryz.ntmps148
 go_wp2
 go_loopg [0, 3] k (fun kq v0 v3 w' => ∃ (x0_1 : Int) (x3_1 : ByteArray), v0 = .int .u64 x0_1 ∧ v3 = .string x3_1 ∧ Aside0 (octavoref05_Digits.l0 kq x0_1 x3_1 = some r) ∧ Aside0 (kq ≤ k) ∧ Aside0 (Below w.heap.size w w'))
 case atStart => exact ⟨(a0), ((⟨#[]⟩ : ByteArray)), zrl, zrl, H', ⟨Nat.le_refl _⟩, ⟨by repeat (first | (with_reducible first | exact HB.out | apply below_alloc | apply pw_below_drewN | apply below_drew1) | exact HB.out)⟩⟩
 case round =>
  clear H'
  try clear c1
  obtain ⟨x0_1, x3_1, rfl, rfl, HA, HK1, HB⟩ := hrel
  cases gk with
  | zero => exact absurd HA.out (by simp [octavoref05_Digits.l0])
  | succ k1 =>
   have H := HA.out
   clear HA
   simp only [octavoref05_Digits.l0] at H
   obtain ⟨y142, hy142⟩ : ∃ y_ : List Int, y_ = (([(IntKind.u64.wrap (48 + (Int.tmod x0_1 10))) % 256] : List Int)) := ⟨_, rfl⟩
   replace H : (if (strOfNums y142).size + x3_1.size ≤ 9223372036854775807 then (if (IntKind.u64.wrap (Int.tdiv x0_1 10)) = 0 then (some ((strOfNums y142) ++ x3_1)) else (octavoref05_Digits.l0 k1 (IntKind.u64.wrap (Int.tdiv x0_1 10)) ((strOfNums y142) ++ x3_1))) else (none)) = some r := by first | (rw [hy142]; with_reducible exact H) | (have H2_ := (Option.bind_some _ _).symm.trans H; rw [hy142]; with_reducible exact H2_) | (have H2_ := (Option.bind_some _ _).symm.trans H; with_reducible exact H2_) | with_reducible exact H | (rw [hy142]; exact H) | exact H
   have Ny142 := Aside0.mk hy142
   clear hy142
   by_cases c2 : (strOfNums y142).size + x3_1.size ≤ 9223372036854775807
   ·rw [if_pos c2] at H
    have c2b0 := eq_true c2
    have c2b1 : decide ((strOfNums y142).size + x3_1.size ≤ 9223372036854775807) = true := decide_eq_true c2
    try have c2b2 : (9223372036854775807 < (strOfNums y142).size + x3_1.size) = False := eq_false (Nat.not_lt.2 c2)
    by_cases c3 : (IntKind.u64.wrap (Int.tdiv x0_1 10)) = 0
    ·rw [if_pos c3] at H
     have c3b0 : ((IntKind.u64.wrap (Int.tdiv x0_1 10)) == 0) = true := beq_iff_eq.mpr c3
     have c3b1 : ((IntKind.u64.wrap (Int.tdiv x0_1 10)) != 0) = false := bne_eq_false_iff_eq.mpr c3
     clear c3
     obtain rfl := Option.some.inj H
     go_wp2_with (first | ((with_reducible refine gate_dst (N := 8) rfl ?_); refine Kd.R_lit (Kd.int .u8) _ 5 ?hg (N := 8) ?hd (xs := ([(IntKind.u64.wrap (48 + (Int.tmod x0_1 10))) % 256] : List Int)) (inner := [.int .u8 ((IntKind.u64.wrap (48 + (Int.tmod x0_1 10))) % 256)]) (ok := fun _ => True) (okp := fun _ => True) ?hr ?hp (fun _ hk => hk) trivial (Below.refl _ _) (Nat.le_refl _) (by simp) ?_; (case hd => rfl); (case hg => rfl); (case hr => first | (go_simp; done) | (go_simp; rfl)); (case hp => exact (Reps.one (show Kd.M (Kd.int .u8) _ _ _ ((IntKind.u64.wrap (48 + (Int.tmod x0_1 10))) % 256) [.int .u8 ((IntKind.u64.wrap (48 + (Int.tmod x0_1 10))) % 256)] from rfl) (Reps.none _ _))); intro v143 w4 ho5 hb hg_ hnew_; clear hg_ hnew_; (first | rw [← Ny142.out] at ho5 | (simp only [Int.reduceToNat] at ho5; rw [← Ny142.out] at ho5)); have n0_ := Aside0.mk (Kd.R_lower ho5 (below_size (by repeat (first | (with_reducible first | exact HB.out | apply below_alloc | apply pw_below_drewN | apply below_drew1) | exact HB.out)))); have n1_ := Aside0.mk (below_step (by repeat (first | (with_reducible first | exact HB.out | apply below_alloc | apply pw_below_drewN | apply below_drew1) | exact HB.out)) hb); clear HB; have HO144 := n0_; have HB := n1_; clear n0_ n1_; clear hb ho5; have hcv6 := own_string (P := Tryz.prog) Tryz.underlying87 Tryz.underlying5 Tryz.underlying9 (Kd.own_of_R HO144.out)))
     go_ret
     exact ⟨by first | rfl | (simp [errW_none, errW_some] <;> rfl) | (simp [*, errW_none, errW_some] <;> rfl), by repeat (first | (with_reducible first | exact HB.out | apply below_alloc | apply pw_below_drewN | apply below_drew1) | exact HB.out)⟩
    ·rw [if_neg c3] at H
     have c3b0 : ((IntKind.u64.wrap (Int.tdiv x0_1 10)) == 0) = false := beq_eq_false_iff_ne.mpr c3
     have c3b1 : ((IntKind.u64.wrap (Int.tdiv x0_1 10)) != 0) = true := bne_iff_ne.mpr c3
     have H' := Aside0.mk H
     clear H
     go_wp2_with (first | ((with_reducible refine gate_dst (N := 8) rfl ?_); refine Kd.R_lit (Kd.int .u8) _ 5 ?hg (N := 8) ?hd (xs := ([(IntKind.u64.wrap (48 + (Int.tmod x0_1 10))) % 256] : List Int)) (inner := [.int .u8 ((IntKind.u64.wrap (48 + (Int.tmod x0_1 10))) % 256)]) (ok := fun _ => True) (okp := fun _ => True) ?hr ?hp (fun _ hk => hk) trivial (Below.refl _ _) (Nat.le_refl _) (by simp) ?_; (case hd => rfl); (case hg => rfl); (case hr => first | (go_simp; done) | (go_simp; rfl)); (case hp => exact (Reps.one (show Kd.M (Kd.int .u8) _ _ _ ((IntKind.u64.wrap (48 + (Int.tmod x0_1 10))) % 256) [.int .u8 ((IntKind.u64.wrap (48 + (Int.tmod x0_1 10))) % 256)] from rfl) (Reps.none _ _))); intro v143 w7 ho8 hb hg_ hnew_; clear hg_ hnew_; (first | rw [← Ny142.out] at ho8 | (simp only [Int.reduceToNat] at ho8; rw [← Ny142.out] at ho8)); have n0_ := Aside0.mk (Kd.R_lower ho8 (below_size (by repeat (first | (with_reducible first | exact HB.out | apply below_alloc | apply pw_below_drewN | apply below_drew1) | exact HB.out)))); have n1_ := Aside0.mk (below_step (by repeat (first | (with_reducible first | exact HB.out | apply below_alloc | apply pw_below_drewN | apply below_drew1) | exact HB.out)) hb); clear HB; have HO144 := n0_; have HB := n1_; clear n0_ n1_; clear hb ho8; have hcv9 := own_string (P := Tryz.prog) Tryz.underlying87 Tryz.underlying5 Tryz.underlying9 (Kd.own_of_R HO144.out)))
     go_roundg k1
     case measure => have := HK1.out; omega
     case rel => exact ⟨(IntKind.u64.wrap (Int.tdiv x0_1 10)), ((strOfNums y142) ++ x3_1), zrl, zrl, H', ⟨by have := HK1.out; omega⟩, ⟨by repeat (first | (with_reducible first | exact HB.out | apply below_alloc | apply pw_below_drewN | apply below_drew1) | exact HB.out)⟩⟩
   ·rw [if_neg c2] at H
    exact absurd H (by simp)
mutual
def octavoref05_Print.j0 : Nat → ByteArray → Int → Option (ByteArray)
 | 0, _, _ => none
 | k + 1, x3, x4 => (octavoref05_Digits.f k (IntKind.u64.wrap (Int.tdiv x4 10000))).bind fun t145 => (if x3.size + t145.size ≤ 9223372036854775807 then ((octavoref05_Digits.f k (IntKind.u64.wrap ((Int.tmod x4 10000) + 10000))).bind fun t146 => (if 1 ≤ (t146.size : Int) then (octavoref05_Print.l0 k (x3 ++ t145) (t146.extract 1 t146.size)) else (none))) else (none))
def octavoref05_Print.l0 : Nat → ByteArray → ByteArray → Option (ByteArray)
 | 0, _, _ => none
 | k + 1, x5, x6 => if (x6.size : Int) > 0 then (if 0 ≤ (wrap64 ((x6.size : Int) - 1)) then (if (wrap64 ((x6.size : Int) - 1)) < (x6.size : Int) then (if (bt x6 (wrap64 ((x6.size : Int) - 1))) = 48 then (if (wrap64 ((x6.size : Int) - 1)) ≤ (x6.size : Int) then (octavoref05_Print.l0 k x5 (x6.extract 0 ((wrap64 ((x6.size : Int) - 1)) : Int).toNat)) else (none)) else (if x6.toList = ([] : List UInt8) then (some x5) else (if 1 + x6.size ≤ 9223372036854775807 then (if x5.size + ((⟨#[46]⟩ : ByteArray) ++ x6).size ≤ 9223372036854775807 then (some (x5 ++ ((⟨#[46]⟩ : ByteArray) ++ x6))) else (none)) else (none)))) else (none)) else (none)) else (if x6.toList = ([] : List UInt8) then (some x5) else (if 1 + x6.size ≤ 9223372036854775807 then (if x5.size + ((⟨#[46]⟩ : ByteArray) ++ x6).size ≤ 9223372036854775807 then (some (x5 ++ ((⟨#[46]⟩ : ByteArray) ++ x6))) else (none)) else (none)))
end
def octavoref05_Print.f (k : Nat) (a0 : Int) : Option (ByteArray) := if a0 < 0 then (octavoref05_Print.j0 k (⟨#[45]⟩ : ByteArray) (IntKind.u64.wrap ((IntKind.u64.wrap (wrap64 (-(wrap64 (a0 + 1))))) + 1))) else (octavoref05_Print.j0 k (⟨#[]⟩ : ByteArray) (IntKind.u64.wrap (a0)))
theorem octavoref05_Print.mono_l : ∀ k, (∀ y0 y1, LeO (octavoref05_Print.j0 k y0 y1) (octavoref05_Print.j0 (k + 1) y0 y1)) ∧ (∀ y0 y1, LeO (octavoref05_Print.l0 k y0 y1) (octavoref05_Print.l0 (k + 1) y0 y1))
 | 0 => ⟨fun _ _ r h => by simp [octavoref05_Print.j0] at h, fun _ _ r h => by simp [octavoref05_Print.l0] at h⟩
 | k + 1 => by
  obtain ⟨ih0, ih1⟩ := octavoref05_Print.mono_l k
  refine ⟨?_, ?_⟩
  ·intro y0 y1
   unfold octavoref05_Print.j0
   repeat' first
   | (with_reducible exact ih0 _ _)
   | (with_reducible exact ih1 _ _)
   | (with_reducible exact octavoref05_Digits.mono _ _)
   | (with_reducible exact LeO.refl _)
   | (with_reducible exact LeO.none _)
   | (with_reducible refine LeO.ite ?_ ?_)
   | (with_reducible refine LeO.bind ?_ (fun _ => ?_))
   | exact ih0 _ _
   | exact ih1 _ _
   | exact octavoref05_Digits.mono _ _
   | exact LeO.none _
   | refine LeO.ite ?_ ?_
   | refine LeO.bind ?_ (fun _ => ?_)
  ·intro y0 y1
   unfold octavoref05_Print.l0
   repeat' first
   | (with_reducible exact ih0 _ _)
   | (with_reducible exact ih1 _ _)
   | (with_reducible exact octavoref05_Digits.mono _ _)
   | (with_reducible exact LeO.refl _)
   | (with_reducible exact LeO.none _)
   | (with_reducible refine LeO.ite ?_ ?_)
   | (with_reducible refine LeO.bind ?_ (fun _ => ?_))
   | exact ih0 _ _
   | exact ih1 _ _
   | exact octavoref05_Digits.mono _ _
   | exact LeO.none _
   | refine LeO.ite ?_ ?_
   | refine LeO.bind ?_ (fun _ => ?_)
theorem octavoref05_Print.mono : ∀ a0 k, LeO (octavoref05_Print.f k a0) (octavoref05_Print.f (k + 1) a0) := by
 intro a0 k
 obtain ⟨ih0, ih1⟩ := octavoref05_Print.mono_l k
 unfold octavoref05_Print.f
 repeat' first
   | (with_reducible exact ih0 _ _)
   | (with_reducible exact ih1 _ _)
   | (with_reducible exact octavoref05_Digits.mono _ _)
   | (with_reducible exact LeO.refl _)
   | (with_reducible exact LeO.none _)
   | (with_reducible refine LeO.ite ?_ ?_)
   | (with_reducible refine LeO.bind ?_ (fun _ => ?_))
   | exact ih0 _ _
   | exact ih1 _ _
   | exact octavoref05_Digits.mono _ _
   | exact LeO.none _
   | refine LeO.ite ?_ ?_
   | refine LeO.bind ?_ (fun _ => ?_)
set_option maxHeartbeats 8000000 in
set_option maxRecDepth 100000 in
theorem octavoref05_Print.calls (k : Nat) (a0 : Int) (r : ByteArray) (w : World) (h : octavoref05_Print.f k a0 = some r) :
  Calls Tryz.prog 96 #[.int .i64 a0] w fun e w' => e = .returned (.string r) ∧ Below w.heap.size w w' := by
 have HB := Aside0.mk (Below.refl w.heap.size w)
 have H : (if a0 < 0 then (octavoref05_Print.j0 k (⟨#[45]⟩ : ByteArray) (IntKind.u64.wrap ((IntKind.u64.wrap (wrap64 (-(wrap64 (a0 + 1))))) + 1))) else (octavoref05_Print.j0 k (⟨#[]⟩ : ByteArray) (IntKind.u64.wrap (a0)))) = some r := h
 clear h
 have HC2 := Aside0.mk H
 clear H
 go_enter Tryz.func96, Tryz.ntmps96
 go_upto_if 8 with (fail)
 go_cut [3, 4] (fun v3 v4 wc => ∃ (kq : Nat) (x3_1 : ByteArray) (x4_1 : Int), v3 = .string x3_1 ∧ v4 = .int .u64 x4_1 ∧ Aside0 (octavoref05_Print.j0 kq x3_1 x4_1 = some r) ∧ Aside0 (kq ≤ k) ∧ Aside0 (Below w.heap.size w wc))
 case first =>
  have H := HC2.out
  clear HC2
  by_cases c3 : a0 < 0
  ·rw [if_pos c3] at H
   have c3b0 : decide (a0 < 0) = true := decide_eq_true c3
   clear c3
   (first | rw [c3b0] | (simp only [i64_w, i32_w]; rw [c3b0]) | skip)
   have H' := Aside0.mk H
   clear H
   go_wp2
   go_meet
   case rel => exact ⟨_, ((⟨#[45]⟩ : ByteArray)), (IntKind.u64.wrap ((IntKind.u64.wrap (wrap64 (-(wrap64 (a0 + 1))))) + 1)), zrl, zrl, H', ⟨by first | omega | exact Nat.le_refl _⟩, ⟨by repeat (first | (with_reducible first | exact HB.out | apply below_alloc | apply pw_below_drewN | apply below_drew1) | exact HB.out)⟩⟩
  ·rw [if_neg c3] at H
   have c3b0 : decide (a0 < 0) = false := decide_eq_false c3
   clear c3
   (first | rw [c3b0] | (simp only [i64_w, i32_w]; rw [c3b0]) | skip)
   have H' := Aside0.mk H
   clear H
   go_wp2
   go_meet
   case rel => exact ⟨_, ((⟨#[]⟩ : ByteArray)), (IntKind.u64.wrap (a0)), zrl, zrl, H', ⟨by first | omega | exact Nat.le_refl _⟩, ⟨by repeat (first | (with_reducible first | exact HB.out | apply below_alloc | apply pw_below_drewN | apply below_drew1) | exact HB.out)⟩⟩
 case rest =>
  clear HC2
  try clear p2
  try clear c3
  try clear c3b0
  obtain ⟨kq, x3_1, x4_1, rfl, rfl, HA, HJ1, HB⟩ := hcut
  cases kq with
  | zero => exact absurd HA.out (by simp [octavoref05_Print.j0])
  | succ kj1 =>
   have H := HA.out
   clear HA
   simp only [octavoref05_Print.j0] at H
   replace H := Option.bind_eq_some_iff.mp H
   obtain ⟨t145, A40, H⟩ := H
   replace H : (if x3_1.size + t145.size ≤ 9223372036854775807 then ((octavoref05_Digits.f kj1 (IntKind.u64.wrap ((Int.tmod x4_1 10000) + 10000))).bind fun t146 => (if 1 ≤ (t146.size : Int) then (octavoref05_Print.l0 kj1 (x3_1 ++ t145) (t146.extract 1 t146.size)) else (none))) else (none)) = some r := H
   have A4 := Aside0.mk A40
   clear A40
   by_cases c5 : x3_1.size + t145.size ≤ 9223372036854775807
   ·rw [if_pos c5] at H
    have c5b0 := eq_true c5
    have c5b1 : decide (x3_1.size + t145.size ≤ 9223372036854775807) = true := decide_eq_true c5
    try have c5b2 : (9223372036854775807 < x3_1.size + t145.size) = False := eq_false (Nat.not_lt.2 c5)
    replace H := Option.bind_eq_some_iff.mp H
    obtain ⟨t146, A60, H⟩ := H
    replace H : (if 1 ≤ (t146.size : Int) then (octavoref05_Print.l0 kj1 (x3_1 ++ t145) (t146.extract 1 t146.size)) else (none)) = some r := H
    have A6 := Aside0.mk A60
    clear A60
    by_cases c7 : 1 ≤ (t146.size : Int)
    ·rw [if_pos c7] at H
     have c7b0 := eq_true c7
     have c7b1 : decide (1 ≤ (t146.size : Int)) = true := decide_eq_true c7
     clear c7
     have H' := Aside0.mk H
     clear H
     go_wp2_with (first | ((with_reducible refine gate_callee (f := 148) rfl ?_); refine goesL_ (some 19) rfl rfl Tryz.func148 (by kernel_rfl) rfl #[.int .u64 (IntKind.u64.wrap (Int.tdiv x4_1 10000))] rfl (by (try simp only [List.map_toArray, List.map_cons, List.map_nil]); first | done | rfl | (simp only [List.length_drop, List.length_take]; rfl)) ?_; (with_reducible refine (octavoref05_Digits.calls kj1 (IntKind.u64.wrap (Int.tdiv x4_1 10000)) t145 _ A4.out).mono ?_); rintro e w8 ⟨rfl, hb⟩; refine ⟨_, rfl, ?_⟩; have n0_ := Aside0.mk (below_step (by repeat (first | (with_reducible first | exact HB.out | apply below_alloc | apply pw_below_drewN | apply below_drew1) | exact HB.out)) hb); clear HB; have HB := n0_; clear n0_; (try clear hb); (try clear hb2); (try clear hk); (try clear hi)) | ((with_reducible refine gate_callee (f := 148) rfl ?_); refine goesL_ (some 24) rfl rfl Tryz.func148 (by kernel_rfl) rfl #[.int .u64 (IntKind.u64.wrap ((Int.tmod x4_1 10000) + 10000))] rfl (by (try simp only [List.map_toArray, List.map_cons, List.map_nil]); first | done | rfl | (simp only [List.length_drop, List.length_take]; rfl)) ?_; (with_reducible refine (octavoref05_Digits.calls kj1 (IntKind.u64.wrap ((Int.tmod x4_1 10000) + 10000)) t146 _ A6.out).mono ?_); rintro e w9 ⟨rfl, hb⟩; refine ⟨_, rfl, ?_⟩; have n0_ := Aside0.mk (below_step (by repeat (first | (with_reducible first | exact HB.out | apply below_alloc | apply pw_below_drewN | apply below_drew1) | exact HB.out)) hb); clear HB; have HB := n0_; clear n0_; (try clear hb); (try clear hb2); (try clear hk); (try clear hi)))
     go_loopg [6] kj1 (fun kq v6 w' => ∃ (x6_2 : ByteArray), v6 = .string x6_2 ∧ Aside0 (octavoref05_Print.l0 kq (x3_1 ++ t145) x6_2 = some r) ∧ Aside0 (kq ≤ kj1) ∧ Aside0 (Below w.heap.size w w'))
     case atStart => exact ⟨(t146.extract 1 t146.size), zrl, H', ⟨Nat.le_refl _⟩, ⟨by repeat (first | (with_reducible first | exact HB.out | apply below_alloc | apply pw_below_drewN | apply below_drew1) | exact HB.out)⟩⟩
     case round =>
      clear H'
      try clear c1
      try clear p2
      try clear c3
      try clear c3b0
      try clear c5
      try clear c5b0
      try clear c5b1
      try clear c5b2
      try clear p6
      try clear c7
      try clear c7b0
      try clear c7b1
      try clear c9
      try clear p2
      obtain ⟨x6_2, rfl, HA, HK2, HB⟩ := hrel
      cases gk with
      | zero => exact absurd HA.out (by simp [octavoref05_Print.l0])
      | succ k2 =>
       have H := HA.out
       clear HA
       simp only [octavoref05_Print.l0] at H
       by_cases c10 : (x6_2.size : Int) > 0
       ·rw [if_pos c10] at H
        have c10b0 : decide (0 < (x6_2.size : Int)) = true := decide_eq_true c10
        have c10b1 : decide (0 < x6_2.size) = true := decide_eq_true (by omega)
        clear c10
        obtain ⟨ji11, hji11⟩ : ∃ j_ : Int, (wrap64 ((x6_2.size : Int) - 1)) = j_ := ⟨_, rfl⟩
        replace H : (if 0 ≤ (ji11) then (if (ji11) < (x6_2.size : Int) then (if (bt x6_2 (ji11)) = 48 then (if (ji11) ≤ (x6_2.size : Int) then (octavoref05_Print.l0 k2 (x3_1 ++ t145) (x6_2.extract 0 ((ji11) : Int).toNat)) else (none)) else (if x6_2.toList = ([] : List UInt8) then (some (x3_1 ++ t145)) else (if 1 + x6_2.size ≤ 9223372036854775807 then (if (x3_1 ++ t145).size + ((⟨#[46]⟩ : ByteArray) ++ x6_2).size ≤ 9223372036854775807 then (some ((x3_1 ++ t145) ++ ((⟨#[46]⟩ : ByteArray) ++ x6_2))) else (none)) else (none)))) else (none)) else (none)) = some r := by first | (rw [hji11] at H; exact H) | (simp only [hji11] at H ⊢; exact H)
        have hji11w : (IntKind.i64.wrap ((x6_2.size : Int) - 1)) = ji11 := (i64_w _).trans hji11
        by_cases c12 : 0 ≤ (ji11)
        ·rw [if_pos c12] at H
         have c12b0 : decide (0 ≤ (ji11)) = true := decide_eq_true c12
         clear c12
         by_cases c13 : (ji11) < (x6_2.size : Int)
         ·rw [if_pos c13] at H
          have c13b0 : decide ((ji11) < (x6_2.size : Int)) = true := decide_eq_true c13
          clear c13
          by_cases c15 : (bt x6_2 (ji11)) = 48
          ·rw [if_pos c15] at H
           have c15b0 : ((bt x6_2 (ji11)) == 48) = true := beq_iff_eq.mpr c15
           have c15b1 : ((bt x6_2 (ji11)) != 48) = false := bne_eq_false_iff_eq.mpr c15
           clear c15
           have c16b0 := eq_true (of_decide_eq_true zas : 0 ≤ (ji11))
           by_cases c17 : (ji11) ≤ (x6_2.size : Int)
           ·rw [if_pos c17] at H
            have c17b0 := eq_true c17
            have c17b1 : decide ((ji11) ≤ (x6_2.size : Int)) = true := decide_eq_true c17
            clear c17
            have H' := Aside0.mk H
            clear H
            have p14 : 0 ≤ ((ji11) : Int) := of_decide_eq_true zas
            have q14 : (ji11) < (x6_2.size : Int) := of_decide_eq_true zas
            have hx14 := bt_at x6_2 (ji11)
            replace p14 := eq_true p14
            replace q14 := eq_true q14
            go_wp2
            go_roundg k2
            case measure => have := HJ1.out; have := HK2.out; omega
            case rel => exact ⟨(x6_2.extract 0 ((ji11) : Int).toNat), (by first | rfl | (simp; done) | (simp only [← hji11] <;> (first | rfl | simp)) | (simp [*]; done)), H', ⟨by have := HJ1.out; have := HK2.out; omega⟩, ⟨by repeat (first | (with_reducible first | exact HB.out | apply below_alloc | apply pw_below_drewN | apply below_drew1) | exact HB.out)⟩⟩
           ·rw [if_neg c17] at H
            exact absurd H (by simp)
          ·rw [if_neg c15] at H
           have c15b0 : ((bt x6_2 (ji11)) == 48) = false := beq_eq_false_iff_ne.mpr c15
           have c15b1 : ((bt x6_2 (ji11)) != 48) = true := bne_iff_ne.mpr c15
           by_cases c18 : x6_2.toList = ([] : List UInt8)
           ·rw [if_pos c18] at H
            have c18b0 : (x6_2.toList == ([] : List UInt8)) = true := beq_iff_eq.mpr c18
            have c18b1 : (x6_2.toList != ([] : List UInt8)) = false := bne_eq_false_iff_eq.mpr c18
            clear c18
            obtain rfl := Option.some.inj H
            have p14 : 0 ≤ ((ji11) : Int) := of_decide_eq_true zas
            have q14 : (ji11) < (x6_2.size : Int) := of_decide_eq_true zas
            have hx14 := bt_at x6_2 (ji11)
            replace p14 := eq_true p14
            replace q14 := eq_true q14
            go_wp2
            go_ret
            exact ⟨by first | rfl | (simp [errW_none, errW_some] <;> rfl) | (simp only [← hji11]; first | rfl | (simp [errW_none, errW_some] <;> rfl)) | (simp [*, errW_none, errW_some] <;> rfl), by repeat (first | (with_reducible first | exact HB.out | apply below_alloc | apply pw_below_drewN | apply below_drew1) | exact HB.out)⟩
           ·rw [if_neg c18] at H
            have c18b0 : (x6_2.toList == ([] : List UInt8)) = false := beq_eq_false_iff_ne.mpr c18
            have c18b1 : (x6_2.toList != ([] : List UInt8)) = true := bne_iff_ne.mpr c18
            by_cases c19 : 1 + x6_2.size ≤ 9223372036854775807
            ·rw [if_pos c19] at H
             have c19b0 := eq_true c19
             have c19b1 : decide (1 + x6_2.size ≤ 9223372036854775807) = true := decide_eq_true c19
             try have c19b2 : (9223372036854775807 < 1 + x6_2.size) = False := eq_false (Nat.not_lt.2 c19)
             by_cases c20 : (x3_1 ++ t145).size + ((⟨#[46]⟩ : ByteArray) ++ x6_2).size ≤ 9223372036854775807
             ·rw [if_pos c20] at H
              have c20b0 := eq_true c20
              have c20b1 : decide ((x3_1 ++ t145).size + ((⟨#[46]⟩ : ByteArray) ++ x6_2).size ≤ 9223372036854775807) = true := decide_eq_true c20
              try have c20b2 : (9223372036854775807 < (x3_1 ++ t145).size + ((⟨#[46]⟩ : ByteArray) ++ x6_2).size) = False := eq_false (Nat.not_lt.2 c20)
              try (have c20b3 := c20; simp only [ByteArray.size_append, Nat.add_zero, Nat.zero_add, show (⟨#[46]⟩ : ByteArray).size = 1 from rfl] at c20b3; have c20b4 := eq_true c20b3; have c20b5 := eq_false (Nat.not_lt.2 c20b3))
              obtain rfl := Option.some.inj H
              have p14 : 0 ≤ ((ji11) : Int) := of_decide_eq_true zas
              have q14 : (ji11) < (x6_2.size : Int) := of_decide_eq_true zas
              have hx14 := bt_at x6_2 (ji11)
              replace p14 := eq_true p14
              replace q14 := eq_true q14
              go_wp2
              go_ret
              exact ⟨by first | rfl | (simp [errW_none, errW_some] <;> rfl) | (simp only [← hji11]; first | rfl | (simp [errW_none, errW_some] <;> rfl)) | (simp [*, errW_none, errW_some] <;> rfl), by repeat (first | (with_reducible first | exact HB.out | apply below_alloc | apply pw_below_drewN | apply below_drew1) | exact HB.out)⟩
             ·rw [if_neg c20] at H
              exact absurd H (by simp)
            ·rw [if_neg c19] at H
             exact absurd H (by simp)
         ·rw [if_neg c13] at H
          exact absurd H (by simp)
        ·rw [if_neg c12] at H
         exact absurd H (by simp)
       ·rw [if_neg c10] at H
        have c10b0 : decide (0 < (x6_2.size : Int)) = false := decide_eq_false c10
        have c10b1 : decide (0 < x6_2.size) = false := decide_eq_false (by omega)
        clear c10
        by_cases c21 : x6_2.toList = ([] : List UInt8)
        ·rw [if_pos c21] at H
         have c21b0 : (x6_2.toList == ([] : List UInt8)) = true := beq_iff_eq.mpr c21
         have c21b1 : (x6_2.toList != ([] : List UInt8)) = false := bne_eq_false_iff_eq.mpr c21
         clear c21
         obtain rfl := Option.some.inj H
         go_wp2
         go_ret
         exact ⟨by first | rfl | (simp [errW_none, errW_some] <;> rfl) | (simp [*, errW_none, errW_some] <;> rfl), by repeat (first | (with_reducible first | exact HB.out | apply below_alloc | apply pw_below_drewN | apply below_drew1) | exact HB.out)⟩
        ·rw [if_neg c21] at H
         have c21b0 : (x6_2.toList == ([] : List UInt8)) = false := beq_eq_false_iff_ne.mpr c21
         have c21b1 : (x6_2.toList != ([] : List UInt8)) = true := bne_iff_ne.mpr c21
         by_cases c22 : 1 + x6_2.size ≤ 9223372036854775807
         ·rw [if_pos c22] at H
          have c22b0 := eq_true c22
          have c22b1 : decide (1 + x6_2.size ≤ 9223372036854775807) = true := decide_eq_true c22
          try have c22b2 : (9223372036854775807 < 1 + x6_2.size) = False := eq_false (Nat.not_lt.2 c22)
          by_cases c23 : (x3_1 ++ t145).size + ((⟨#[46]⟩ : ByteArray) ++ x6_2).size ≤ 9223372036854775807
          ·rw [if_pos c23] at H
           have c23b0 := eq_true c23
           have c23b1 : decide ((x3_1 ++ t145).size + ((⟨#[46]⟩ : ByteArray) ++ x6_2).size ≤ 9223372036854775807) = true := decide_eq_true c23
           try have c23b2 : (9223372036854775807 < (x3_1 ++ t145).size + ((⟨#[46]⟩ : ByteArray) ++ x6_2).size) = False := eq_false (Nat.not_lt.2 c23)
           try (have c23b3 := c23; simp only [ByteArray.size_append, Nat.add_zero, Nat.zero_add, show (⟨#[46]⟩ : ByteArray).size = 1 from rfl] at c23b3; have c23b4 := eq_true c23b3; have c23b5 := eq_false (Nat.not_lt.2 c23b3))
           obtain rfl := Option.some.inj H
           go_wp2
           go_ret
           exact ⟨by first | rfl | (simp [errW_none, errW_some] <;> rfl) | (simp [*, errW_none, errW_some] <;> rfl), by repeat (first | (with_reducible first | exact HB.out | apply below_alloc | apply pw_below_drewN | apply below_drew1) | exact HB.out)⟩
          ·rw [if_neg c23] at H
           exact absurd H (by simp)
         ·rw [if_neg c22] at H
          exact absurd H (by simp)
    ·rw [if_neg c7] at H
     exact absurd H (by simp)
   ·rw [if_neg c5] at H
    exact absurd H (by simp)
def octavoref05_floor.f (a0 : Int) (a1 : Int) : Option (Int) := if a1 = 0 then (none) else (if (Int.tmod a0 a1) = 0 then (some (wrap64 (Int.tdiv a0 a1))) else (if ((decide (a0 < 0)) != (decide (a1 < 0))) = true then (some (wrap64 ((wrap64 (Int.tdiv a0 a1)) - 1))) else (some (wrap64 (Int.tdiv a0 a1)))))
set_option maxHeartbeats 8000000 in
set_option maxRecDepth 100000 in
theorem octavoref05_floor.calls (a0 : Int) (a1 : Int) (r : Int) (w : World) (h : octavoref05_floor.f a0 a1 = some r) :
  Calls Tryz.prog 146 #[.int .i64 a0, .int .i64 a1] w fun e w' => e = .returned (.int .i64 r) ∧ Drawn0 w w' := by
 have H : (if a1 = 0 then (none) else (if (Int.tmod a0 a1) = 0 then (some (wrap64 (Int.tdiv a0 a1))) else (if ((decide (a0 < 0)) != (decide (a1 < 0))) = true then (some (wrap64 ((wrap64 (Int.tdiv a0 a1)) - 1))) else (some (wrap64 (Int.tdiv a0 a1)))))) = some r := h
 clear h
 by_cases c3 : a1 = 0
 ·rw [if_pos c3] at H
  exact absurd H (by simp)
 ·rw [if_neg c3] at H
  have c3b0 : (a1 == 0) = false := beq_eq_false_iff_ne.mpr c3
  have c3b1 : (a1 != 0) = true := bne_iff_ne.mpr c3
  by_cases c4 : (Int.tmod a0 a1) = 0
  ·rw [if_pos c4] at H
   have c4b0 : ((Int.tmod a0 a1) == 0) = true := beq_iff_eq.mpr c4
   have c4b1 : ((Int.tmod a0 a1) != 0) = false := bne_eq_false_iff_eq.mpr c4
   clear c4
   obtain rfl := Option.some.inj H
   go_enter Tryz.func146, Tryz.ntmps146
   go_wp2
   go_ret
   exact ⟨zrl, zdn⟩
  ·rw [if_neg c4] at H
   have c4b0 : ((Int.tmod a0 a1) == 0) = false := beq_eq_false_iff_ne.mpr c4
   have c4b1 : ((Int.tmod a0 a1) != 0) = true := bne_iff_ne.mpr c4
   by_cases c5 : ((decide (a0 < 0)) != (decide (a1 < 0))) = true
   ·rw [if_pos c5] at H
    have c5b0 : ((decide (a0 < 0)) != (decide (a1 < 0))) = true := c5
    (try (have c5b1 : decide ((decide (a0 < 0)) = (decide (a1 < 0))) = false := by simpa using c5))
    (try (have c5b2 : ((decide (a0 < 0)) == (decide (a1 < 0))) = false := by simpa using c5))
    (try (have c5b3 : ¬ ((decide (a0 < 0)) = (decide (a1 < 0))) := by simpa using c5))
    clear c5
    obtain rfl := Option.some.inj H
    go_enter Tryz.func146, Tryz.ntmps146
    go_wp2
    go_ret
    exact ⟨zrl, zdn⟩
   ·rw [if_neg c5] at H
    have c5b0 : ((decide (a0 < 0)) != (decide (a1 < 0))) = false := by simpa using c5
    (try (have c5b1 : decide ((decide (a0 < 0)) = (decide (a1 < 0))) = true := by simpa using c5))
    (try (have c5b2 : ((decide (a0 < 0)) == (decide (a1 < 0))) = true := by simpa using c5))
    clear c5
    obtain rfl := Option.some.inj H
    go_enter Tryz.func146, Tryz.ntmps146
    go_wp2
    go_ret
    exact ⟨zrl, zdn⟩
end Go.Proofs.YtcbknemdidehlaaGreatDoor.P
