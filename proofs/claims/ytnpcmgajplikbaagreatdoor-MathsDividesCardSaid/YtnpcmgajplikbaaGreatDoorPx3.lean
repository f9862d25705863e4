-- Written by a program of this session (wip/tools/xprint.py), out of the seat's translation. Not trusted: Lean checks it.
import Derived.Test.YtnpcmgajplikbaaGreatDoorPx0
import Derived.Test.YtnpcmgajplikbaaGreatDoorPx1
import Derived.Test.YtnpcmgajplikbaaGreatDoorPx2
namespace Go.Proofs.YtnpcmgajplikbaaGreatDoor.P
open Go.RowKit Go.Proofs.YtnpcmgajplikbaaGreatDoorW.PrintWords Go.Proofs.YtnpcmgajplikbaaGreatDoorW.PrintLast Go.Proofs.YtnpcmgajplikbaaGreatDoorW.PrintMore
attribute [local go_sem] max2_int min2_int max_two min_two max_three min_three max_four min_four X.binOp_str_gtr X.binOp_str_leq   -- for this text's walks alone
set_option linter.unusedVariables false
set_option linter.unusedSimpArgs false

/-! ### num_Round: function 39 -/
mutual
def num_Round.j0 : Nat → Int → Int → Int → Bool → Option (Int × Bool)
  | 0, _, _, _, _ => none
  | k + 1, x0, x1, x2, x30 => if x30 = true then (some (0, false)) else (num_Round.l0 k x0 x2 1 (wrap64 (4 - x1)) 0)
def num_Round.l0 : Nat → Int → Int → Int → Int → Int → Option (Int × Bool)
  | 0, _, _, _, _, _ => none
  | k + 1, x0, x2, x8, x32, x33 => if x33 < x32 then (num_Round.l0 k x0 x2 (wrap64 (x8 * 10)) x32 (wrap64 (x33 + 1))) else ((num_floor.f x0 x8).bind fun t157 => (if (wrap64 (x0 - (wrap64 (t157 * x8)))) = 0 then (some (x0, true)) else (if (wrap64 (2 * (wrap64 (x0 - (wrap64 (t157 * x8)))))) > x8 then (if 0 ≤ x2 then (if x2 < 5 then (if (rdOf false ([true, decide (x0 > 0), decide (x0 < 0), true, false] : List Bool) x2) = true then ((num_told.f (wrap64 ((wrap64 (x0 - (wrap64 (x0 - (wrap64 (t157 * x8)))))) + x8))).bind fun bt158 => (some (bt158.1, bt158.2))) else ((num_told.f (wrap64 (x0 - (wrap64 (x0 - (wrap64 (t157 * x8))))))).bind fun bt160 => (some (bt160.1, bt160.2)))) else (none)) else (none)) else (if (wrap64 (2 * (wrap64 (x0 - (wrap64 (t157 * x8)))))) = x8 then (if 0 ≤ x2 then (if x2 < 5 then (if (rdOf false ([decide (x0 > 0), decide (x0 > 0), decide (x0 < 0), true, false] : List Bool) x2) = true then ((num_told.f (wrap64 ((wrap64 (x0 - (wrap64 (x0 - (wrap64 (t157 * x8)))))) + x8))).bind fun bt162 => (some (bt162.1, bt162.2))) else ((num_told.f (wrap64 (x0 - (wrap64 (x0 - (wrap64 (t157 * x8))))))).bind fun bt164 => (some (bt164.1, bt164.2)))) else (none)) else (none)) else (if 0 ≤ x2 then (if x2 < 5 then (if (rdOf false ([false, decide (x0 > 0), decide (x0 < 0), true, false] : List Bool) x2) = true then ((num_told.f (wrap64 ((wrap64 (x0 - (wrap64 (x0 - (wrap64 (t157 * x8)))))) + x8))).bind fun bt166 => (some (bt166.1, bt166.2))) else ((num_told.f (wrap64 (x0 - (wrap64 (x0 - (wrap64 (t157 * x8))))))).bind fun bt168 => (some (bt168.1, bt168.2)))) else (none)) else (none))))))
end
def num_Round.f (k : Nat) (a0 : Int) (a1 : Int) (a2 : Int) : Option (Int × Bool) := (num_Good.f a0).bind fun t156 => (if t156 = true then (if a1 < (-8) then (num_Round.j0 k a0 a1 a2 true) else (if a1 > 4 then (num_Round.j0 k a0 a1 a2 true) else (if a2 < 0 then (num_Round.j0 k a0 a1 a2 true) else (num_Round.j0 k a0 a1 a2 (decide (a2 > 4)))))) else (num_Round.j0 k a0 a1 a2 true))
theorem num_Round.mono_l : ∀ k, (∀ y0 y1 y2 y3, LeO (num_Round.j0 k y0 y1 y2 y3) (num_Round.j0 (k + 1) y0 y1 y2 y3)) ∧ (∀ y0 y1 y2 y3 y4, LeO (num_Round.l0 k y0 y1 y2 y3 y4) (num_Round.l0 (k + 1) y0 y1 y2 y3 y4))
  | 0 => ⟨fun _ _ _ _ r h => by simp [num_Round.j0] at h, fun _ _ _ _ _ r h => by simp [num_Round.l0] at h⟩
  | k + 1 => by
    obtain ⟨ih0, ih1⟩ := num_Round.mono_l k
    refine ⟨?_, ?_⟩
    · intro y0 y1 y2 y3
      unfold num_Round.j0
      repeat' first
      | (with_reducible exact ih0 _ _ _ _)
      | (with_reducible exact ih1 _ _ _ _ _)
      | (with_reducible exact LeO.refl _)
      | (with_reducible exact LeO.none _)
      | (with_reducible refine LeO.ite ?_ ?_)
      | (with_reducible refine LeO.bind ?_ (fun _ => ?_))
      | exact ih0 _ _ _ _
      | exact ih1 _ _ _ _ _
      | exact LeO.none _
      | refine LeO.ite ?_ ?_
      | refine LeO.bind ?_ (fun _ => ?_)
    · intro y0 y1 y2 y3 y4
      unfold num_Round.l0
      repeat' first
      | (with_reducible exact ih0 _ _ _ _)
      | (with_reducible exact ih1 _ _ _ _ _)
      | (with_reducible exact LeO.refl _)
      | (with_reducible exact LeO.none _)
      | (with_reducible refine LeO.ite ?_ ?_)
      | (with_reducible refine LeO.bind ?_ (fun _ => ?_))
      | exact ih0 _ _ _ _
      | exact ih1 _ _ _ _ _
      | exact LeO.none _
      | refine LeO.ite ?_ ?_
      | refine LeO.bind ?_ (fun _ => ?_)
theorem num_Round.mono : ∀ a0 a1 a2 k, LeO (num_Round.f k a0 a1 a2) (num_Round.f (k + 1) a0 a1 a2) := by
  intro a0 a1 a2 k
  obtain ⟨ih0, ih1⟩ := num_Round.mono_l k
  unfold num_Round.f
  repeat' first
      | (with_reducible exact ih0 _ _ _ _)
      | (with_reducible exact ih1 _ _ _ _ _)
      | (with_reducible exact LeO.refl _)
      | (with_reducible exact LeO.none _)
      | (with_reducible refine LeO.ite ?_ ?_)
      | (with_reducible refine LeO.bind ?_ (fun _ => ?_))
      | exact ih0 _ _ _ _
      | exact ih1 _ _ _ _ _
      | exact LeO.none _
      | refine LeO.ite ?_ ?_
      | refine LeO.bind ?_ (fun _ => ?_)
set_option maxHeartbeats 8000000 in
set_option maxRecDepth 100000 in
theorem num_Round.calls (k : Nat) (a0 : Int) (a1 : Int) (a2 : Int) (r1 : Int) (r2 : Bool) (w : World) (h : num_Round.f k a0 a1 a2 = some (r1, r2)) :
    Calls Tryz.prog 39 #[.int .i64 a0, .int .i64 a1, .int .i64 a2] w fun e w' => e = .returned (.tuple #[.int .i64 r1, .bool r2]) ∧ Drawn0 w w' := by
  have hu80 := Tryz.underlying80
  have H : ((num_Good.f a0).bind fun t156 => (if t156 = true then (if a1 < (-8) then (num_Round.j0 k a0 a1 a2 true) else (if a1 > 4 then (num_Round.j0 k a0 a1 a2 true) else (if a2 < 0 then (num_Round.j0 k a0 a1 a2 true) else (num_Round.j0 k a0 a1 a2 (decide (a2 > 4)))))) else (num_Round.j0 k a0 a1 a2 true))) = some (r1, r2) := h
  clear h
  have HC4 := Aside0.mk H
  clear H
  go_enter Tryz.func39, Tryz.ntmps39
  go_upto_region 1 with (fail)
  go_cut [30] (fun v30 wc => ∃ (kq : Nat) (x30_3 : Bool), v30 = .bool x30_3 ∧ Aside0 (num_Round.j0 kq a0 a1 a2 x30_3 = some (r1, r2)) ∧ Aside0 (kq ≤ k) ∧ Drawn0 w wc)
  case first =>
    have H := HC4.out
    clear HC4
    replace H := Option.bind_eq_some_iff.mp H
    obtain ⟨t156, A50, H⟩ := H
    replace H : (if t156 = true then (if a1 < (-8) then (num_Round.j0 k a0 a1 a2 true) else (if a1 > 4 then (num_Round.j0 k a0 a1 a2 true) else (if a2 < 0 then (num_Round.j0 k a0 a1 a2 true) else (num_Round.j0 k a0 a1 a2 (decide (a2 > 4)))))) else (num_Round.j0 k a0 a1 a2 true)) = some (r1, r2) := H
    have A5 := Aside0.mk A50
    clear A50
    by_cases c6 : t156 = true
    · subst c6
      have H1 : (if a1 < (-8) then (num_Round.j0 k a0 a1 a2 true) else (if a1 > 4 then (num_Round.j0 k a0 a1 a2 true) else (if a2 < 0 then (num_Round.j0 k a0 a1 a2 true) else (num_Round.j0 k a0 a1 a2 (decide (a2 > 4)))))) = some (r1, r2) := by rw [if_pos rfl] at H; exact H
      clear H
      have H := H1
      clear H1
      by_cases c7 : a1 < (-8)
      · rw [if_pos c7] at H
        have c7b0 : decide (a1 < (-8)) = true := decide_eq_true c7
        clear c7
        (first | rw [c7b0] | (simp only [i64_w, i32_w]; rw [c7b0]) | skip)
        have H' := Aside0.mk H
        clear H
        go_wp2_with (first | ((with_reducible refine gate_callee (f := 59) rfl ?_); refine goesL_ (some 13) rfl rfl Tryz.func59 (by kernel_rfl) rfl #[.int .i64 a0] rfl (by (try simp only [List.map_toArray, List.map_cons, List.map_nil]); first | done | rfl | (simp only [List.length_drop, List.length_take]; rfl)) ?_; (with_reducible refine (num_Good.calls a0 true _ A5.out).mono ?_); rintro e w' ⟨rfl, ⟨nd, rfl⟩⟩; refine ⟨_, rfl, ?_⟩))
        go_meet
        case rel => exact ⟨_, (true), (by first | rfl | (simp; done) | (simp [*]; done) | (simp [Go.Proofs.YtnpcmgajplikbaaGreatDoor.X.bne_nil]; done)), H', ⟨by first | omega | exact Nat.le_refl _⟩, by repeat (first | exact Drawn0.refl _ | apply Drawn0.step)⟩
      · rw [if_neg c7] at H
        have c7b0 : decide (a1 < (-8)) = false := decide_eq_false c7
        clear c7
        (first | rw [c7b0] | (simp only [i64_w, i32_w]; rw [c7b0]) | skip)
        by_cases c8 : a1 > 4
        · rw [if_pos c8] at H
          have c8b0 : decide (4 < a1) = true := decide_eq_true c8
          clear c8
          have H' := Aside0.mk H
          clear H
          go_wp2_with (first | ((with_reducible refine gate_callee (f := 59) rfl ?_); refine goesL_ (some 13) rfl rfl Tryz.func59 (by kernel_rfl) rfl #[.int .i64 a0] rfl (by (try simp only [List.map_toArray, List.map_cons, List.map_nil]); first | done | rfl | (simp only [List.length_drop, List.length_take]; rfl)) ?_; (with_reducible refine (num_Good.calls a0 true _ A5.out).mono ?_); rintro e w' ⟨rfl, ⟨nd, rfl⟩⟩; refine ⟨_, rfl, ?_⟩))
          go_meet
          case rel => exact ⟨_, (true), (by first | rfl | (simp; done) | (simp [*]; done) | (simp [Go.Proofs.YtnpcmgajplikbaaGreatDoor.X.bne_nil]; done)), H', ⟨by first | omega | exact Nat.le_refl _⟩, by repeat (first | exact Drawn0.refl _ | apply Drawn0.step)⟩
        · rw [if_neg c8] at H
          have c8b0 : decide (4 < a1) = false := decide_eq_false c8
          clear c8
          by_cases c9 : a2 < 0
          · rw [if_pos c9] at H
            have c9b0 : decide (a2 < 0) = true := decide_eq_true c9
            clear c9
            have H' := Aside0.mk H
            clear H
            go_wp2_with (first | ((with_reducible refine gate_callee (f := 59) rfl ?_); refine goesL_ (some 13) rfl rfl Tryz.func59 (by kernel_rfl) rfl #[.int .i64 a0] rfl (by (try simp only [List.map_toArray, List.map_cons, List.map_nil]); first | done | rfl | (simp only [List.length_drop, List.length_take]; rfl)) ?_; (with_reducible refine (num_Good.calls a0 true _ A5.out).mono ?_); rintro e w' ⟨rfl, ⟨nd, rfl⟩⟩; refine ⟨_, rfl, ?_⟩))
            go_meet
            case rel => exact ⟨_, (true), (by first | rfl | (simp; done) | (simp [*]; done) | (simp [Go.Proofs.YtnpcmgajplikbaaGreatDoor.X.bne_nil]; done)), H', ⟨by first | omega | exact Nat.le_refl _⟩, by repeat (first | exact Drawn0.refl _ | apply Drawn0.step)⟩
          · rw [if_neg c9] at H
            have c9b0 : decide (a2 < 0) = false := decide_eq_false c9
            clear c9
            have H' := Aside0.mk H
            clear H
            go_wp2_with (first | ((with_reducible refine gate_callee (f := 59) rfl ?_); refine goesL_ (some 13) rfl rfl Tryz.func59 (by kernel_rfl) rfl #[.int .i64 a0] rfl (by (try simp only [List.map_toArray, List.map_cons, List.map_nil]); first | done | rfl | (simp only [List.length_drop, List.length_take]; rfl)) ?_; (with_reducible refine (num_Good.calls a0 true _ A5.out).mono ?_); rintro e w' ⟨rfl, ⟨nd, rfl⟩⟩; refine ⟨_, rfl, ?_⟩))
            go_meet
            case rel => exact ⟨_, (decide (a2 > 4)), (by first | rfl | (simp; done) | (simp [*]; done) | (simp [Go.Proofs.YtnpcmgajplikbaaGreatDoor.X.bne_nil]; done)), H', ⟨by first | omega | exact Nat.le_refl _⟩, by repeat (first | exact Drawn0.refl _ | apply Drawn0.step)⟩
    · replace c6 := Bool.eq_false_iff.mpr c6
      subst c6
      have H1 : (num_Round.j0 k a0 a1 a2 true) = some (r1, r2) := by rw [if_neg (show ¬ (false = true) by decide)] at H; exact H
      clear H
      have H := H1
      clear H1
      have H' := Aside0.mk H
      clear H
      go_wp2_with (first | ((with_reducible refine gate_callee (f := 59) rfl ?_); refine goesL_ (some 13) rfl rfl Tryz.func59 (by kernel_rfl) rfl #[.int .i64 a0] rfl (by (try simp only [List.map_toArray, List.map_cons, List.map_nil]); first | done | rfl | (simp only [List.length_drop, List.length_take]; rfl)) ?_; (with_reducible refine (num_Good.calls a0 false _ A5.out).mono ?_); rintro e w' ⟨rfl, ⟨nd, rfl⟩⟩; refine ⟨_, rfl, ?_⟩))
      go_meet
      case rel => exact ⟨_, (true), (by first | rfl | (simp; done) | (simp [*]; done) | (simp [Go.Proofs.YtnpcmgajplikbaaGreatDoor.X.bne_nil]; done)), H', ⟨by first | omega | exact Nat.le_refl _⟩, by repeat (first | exact Drawn0.refl _ | apply Drawn0.step)⟩
  case rest =>
    clear HC4
    try clear p2
    try clear c3
    try clear c5
    try clear c6
    try clear c7
    try clear c7b0
    try clear c8
    try clear c8b0
    try clear c9
    try clear c9b0
    obtain ⟨kq, x30_3, rfl, HA, HJ3, ⟨mc3, rfl⟩⟩ := hcut
    cases kq with
    | zero => exact absurd HA.out (by simp [num_Round.j0])
    | succ kj3 =>
      have H := HA.out
      clear HA
      simp only [num_Round.j0] at H
      by_cases c10 : x30_3 = true
      · subst c10
        have H1 : (some (0, false)) = some (r1, r2) := by rw [if_pos rfl] at H; exact H
        clear H
        have H := H1
        clear H1
        simp only [Option.some.injEq, Prod.mk.injEq] at H
        obtain ⟨rfl, rfl⟩ := H
        go_wp2
        go_ret2
        exact ⟨by first | rfl | (simp; done) | (simp [*]; done) | (simp [Go.Proofs.YtnpcmgajplikbaaGreatDoor.X.bne_nil]; done), by repeat (first | exact Drawn0.refl _ | apply Drawn0.step)⟩
      · replace c10 := Bool.eq_false_iff.mpr c10
        subst c10
        have H1 : (num_Round.l0 kj3 a0 a2 1 (wrap64 (4 - a1)) 0) = some (r1, r2) := by rw [if_neg (show ¬ (false = true) by decide)] at H; exact H
        clear H
        have H := H1
        clear H1
        have H' := Aside0.mk H
        clear H
        go_wp2
        go_loopg [8, 33] kj3 (fun kq v8 v33 w' => ∃ (x8_2 : Int) (x33_2 : Int), v8 = .int .i64 x8_2 ∧ v33 = .int .i64 x33_2 ∧ Aside0 (num_Round.l0 kq a0 a2 x8_2 (wrap64 (4 - a1)) x33_2 = some (r1, r2)) ∧ Aside0 (kq ≤ kj3) ∧ Drawn0 w w')
        case atStart => exact ⟨(1), (0), (by first | rfl | (simp; done) | (simp [*]; done) | (simp [Go.Proofs.YtnpcmgajplikbaaGreatDoor.X.bne_nil]; done)), (by first | rfl | (simp; done) | (simp [*]; done) | (simp [Go.Proofs.YtnpcmgajplikbaaGreatDoor.X.bne_nil]; done)), H', ⟨Nat.le_refl _⟩, by repeat (first | exact Drawn0.refl _ | apply Drawn0.step)⟩
        case round =>
          clear H'
          try clear c1
          try clear p2
          try clear c3
          try clear c5
          try clear c6
          try clear p6
          try clear c7
          try clear c7b0
          try clear c8
          try clear c8b0
          try clear c9
          try clear c9b0
          try clear c10
          try clear p2
          obtain ⟨x8_2, x33_2, rfl, rfl, HA, HK2, ⟨m2, rfl⟩⟩ := hrel
          cases gk with
          | zero => exact absurd HA.out (by simp [num_Round.l0])
          | succ k2 =>
            have H := HA.out
            clear HA
            simp only [num_Round.l0] at H
            by_cases c11 : x33_2 < (wrap64 (4 - a1))
            · rw [if_pos c11] at H
              have c11b0 : decide (x33_2 < (wrap64 (4 - a1))) = true := decide_eq_true c11
              clear c11
              have H' := Aside0.mk H
              clear H
              go_wp2
              go_roundg k2
              case measure => have := HJ3.out; have := HK2.out; omega
              case rel => exact ⟨(wrap64 (x8_2 * 10)), (wrap64 (x33_2 + 1)), (by first | rfl | (simp; done) | (simp [*]; done) | (simp [Go.Proofs.YtnpcmgajplikbaaGreatDoor.X.bne_nil]; done)), (by first | rfl | (simp; done) | (simp [*]; done) | (simp [Go.Proofs.YtnpcmgajplikbaaGreatDoor.X.bne_nil]; done)), H', ⟨by have := HJ3.out; have := HK2.out; omega⟩, by repeat (first | exact Drawn0.refl _ | apply Drawn0.step)⟩
            · rw [if_neg c11] at H
              have c11b0 : decide (x33_2 < (wrap64 (4 - a1))) = false := decide_eq_false c11
              clear c11
              replace H := Option.bind_eq_some_iff.mp H
              obtain ⟨t157, A120, H⟩ := H
              replace H : (if (wrap64 (a0 - (wrap64 (t157 * x8_2)))) = 0 then (some (a0, true)) else (if (wrap64 (2 * (wrap64 (a0 - (wrap64 (t157 * x8_2)))))) > x8_2 then (if 0 ≤ a2 then (if a2 < 5 then (if (rdOf false ([true, decide (a0 > 0), decide (a0 < 0), true, false] : List Bool) a2) = true then ((num_told.f (wrap64 ((wrap64 (a0 - (wrap64 (a0 - (wrap64 (t157 * x8_2)))))) + x8_2))).bind fun bt158 => (some (bt158.1, bt158.2))) else ((num_told.f (wrap64 (a0 - (wrap64 (a0 - (wrap64 (t157 * x8_2))))))).bind fun bt160 => (some (bt160.1, bt160.2)))) else (none)) else (none)) else (if (wrap64 (2 * (wrap64 (a0 - (wrap64 (t157 * x8_2)))))) = x8_2 then (if 0 ≤ a2 then (if a2 < 5 then (if (rdOf false ([decide (a0 > 0), decide (a0 > 0), decide (a0 < 0), true, false] : List Bool) a2) = true then ((num_told.f (wrap64 ((wrap64 (a0 - (wrap64 (a0 - (wrap64 (t157 * x8_2)))))) + x8_2))).bind fun bt162 => (some (bt162.1, bt162.2))) else ((num_told.f (wrap64 (a0 - (wrap64 (a0 - (wrap64 (t157 * x8_2))))))).bind fun bt164 => (some (bt164.1, bt164.2)))) else (none)) else (none)) else (if 0 ≤ a2 then (if a2 < 5 then (if (rdOf false ([false, decide (a0 > 0), decide (a0 < 0), true, false] : List Bool) a2) = true then ((num_told.f (wrap64 ((wrap64 (a0 - (wrap64 (a0 - (wrap64 (t157 * x8_2)))))) + x8_2))).bind fun bt166 => (some (bt166.1, bt166.2))) else ((num_told.f (wrap64 (a0 - (wrap64 (a0 - (wrap64 (t157 * x8_2))))))).bind fun bt168 => (some (bt168.1, bt168.2)))) else (none)) else (none))))) = some (r1, r2) := H
              have A12 := Aside0.mk A120
              clear A120
              by_cases c13 : (wrap64 (a0 - (wrap64 (t157 * x8_2)))) = 0
              · rw [if_pos c13] at H
                have c13b0 : ((wrap64 (a0 - (wrap64 (t157 * x8_2)))) == 0) = true := beq_iff_eq.mpr c13
                have c13b1 : ((wrap64 (a0 - (wrap64 (t157 * x8_2)))) != 0) = false := bne_eq_false_iff_eq.mpr c13
                clear c13
                simp only [Option.some.injEq, Prod.mk.injEq] at H
                obtain ⟨rfl, rfl⟩ := H
                go_wp2_with (first | ((with_reducible refine gate_callee (f := 75) rfl ?_); refine goesL_ (some 41) rfl rfl Tryz.func75 (by kernel_rfl) rfl #[.int .i64 a0, .int .i64 x8_2] rfl (by (try simp only [List.map_toArray, List.map_cons, List.map_nil]); first | done | rfl | (simp only [List.length_drop, List.length_take]; rfl)) ?_; (with_reducible refine (num_floor.calls a0 x8_2 t157 _ A12.out).mono ?_); rintro e w' ⟨rfl, ⟨nd, rfl⟩⟩; refine ⟨_, rfl, ?_⟩))
                go_ret2
                exact ⟨by first | rfl | (simp; done) | (simp [*]; done) | (simp [Go.Proofs.YtnpcmgajplikbaaGreatDoor.X.bne_nil]; done), by repeat (first | exact Drawn0.refl _ | apply Drawn0.step)⟩
              · rw [if_neg c13] at H
                have c13b0 : ((wrap64 (a0 - (wrap64 (t157 * x8_2)))) == 0) = false := beq_eq_false_iff_ne.mpr c13
                have c13b1 : ((wrap64 (a0 - (wrap64 (t157 * x8_2)))) != 0) = true := bne_iff_ne.mpr c13
                by_cases c14 : (wrap64 (2 * (wrap64 (a0 - (wrap64 (t157 * x8_2)))))) > x8_2
                · rw [if_pos c14] at H
                  have c14b0 : decide (x8_2 < (wrap64 (2 * (wrap64 (a0 - (wrap64 (t157 * x8_2))))))) = true := decide_eq_true c14
                  clear c14
                  by_cases c15 : 0 ≤ a2
                  · rw [if_pos c15] at H
                    have c15b0 : decide (0 ≤ a2) = true := decide_eq_true c15
                    clear c15
                    by_cases c16 : a2 < 5
                    · rw [if_pos c16] at H
                      have c16b0 : decide (a2 < 5) = true := decide_eq_true c16
                      clear c16
                      obtain ⟨bq18, hbq18⟩ : ∃ b_ : Bool, b_ = ((rdOf false ([true, decide (a0 > 0), decide (a0 < 0), true, false] : List Bool) a2)) := ⟨_, rfl⟩
                      replace H : (if bq18 = true then ((num_told.f (wrap64 ((wrap64 (a0 - (wrap64 (a0 - (wrap64 (t157 * x8_2)))))) + x8_2))).bind fun bt158 => (some (bt158.1, bt158.2))) else ((num_told.f (wrap64 (a0 - (wrap64 (a0 - (wrap64 (t157 * x8_2))))))).bind fun bt160 => (some (bt160.1, bt160.2)))) = some (r1, r2) := by rw [← hbq18] at H; exact H
                      have Nbq18 := Aside0.mk hbq18
                      clear hbq18
                      by_cases c19 : bq18 = true
                      · subst c19
                        have H1 : ((num_told.f (wrap64 ((wrap64 (a0 - (wrap64 (a0 - (wrap64 (t157 * x8_2)))))) + x8_2))).bind fun bt158 => (some (bt158.1, bt158.2))) = some (r1, r2) := by rw [if_pos rfl] at H; exact H
                        clear H
                        have H := H1
                        clear H1
                        replace H := Option.bind_eq_some_iff.mp H
                        obtain ⟨⟨t158, t159⟩, A200, H⟩ := H
                        replace H : (some (t158, t159)) = some (r1, r2) := H
                        have A20 := Aside0.mk A200
                        clear A200
                        simp only [Option.some.injEq, Prod.mk.injEq] at H
                        obtain ⟨rfl, rfl⟩ := H
                        go_wp2_with (first | ((with_reducible refine gate_callee (f := 75) rfl ?_); refine goesL_ (some 41) rfl rfl Tryz.func75 (by kernel_rfl) rfl #[.int .i64 a0, .int .i64 x8_2] rfl (by (try simp only [List.map_toArray, List.map_cons, List.map_nil]); first | done | rfl | (simp only [List.length_drop, List.length_take]; rfl)) ?_; (with_reducible refine (num_floor.calls a0 x8_2 t157 _ A12.out).mono ?_); rintro e w' ⟨rfl, ⟨nd, rfl⟩⟩; refine ⟨_, rfl, ?_⟩; have p17 : 0 ≤ (a2 : Int) := of_decide_eq_true (by first | (with_reducible assumption) | assumption); have q17 : a2 < (5 : Int) := of_decide_eq_true (by first | (with_reducible assumption) | assumption); have hx17 : ∀ w_ : World, (Instr.index 80 (.agg #[.bool true, .bool (decide (a0 > 0)), .bool (decide (a0 < 0)), .bool true, .bool false]) (.int .i64 a2)).run Tryz.prog w_ = .ok (.bool (rdOf false ([true, decide (a0 > 0), decide (a0 < 0), true, false] : List Bool) a2)) w_ := fun w_ => Go.Proofs.YtnpcmgajplikbaaGreatDoor.X.run_index_array 80 4 5 _ _ _ _ (by kernel_rfl) (by kernel_rfl) (by kernel_rfl) p17 q17 (Go.Proofs.YtnpcmgajplikbaaGreatDoor.X.at_bools ([true, decide (a0 > 0), decide (a0 < 0), true, false] : List Bool) a2 q17 p17); (try rw [← Nbq18.out] at hx17); replace p17 := eq_true p17; replace q17 := eq_true q17) | ((with_reducible refine gate_callee (f := 76) rfl ?_); refine goesL_ (some 77) rfl rfl Tryz.func76 (by kernel_rfl) rfl #[.int .i64 (wrap64 ((wrap64 (a0 - (wrap64 (a0 - (wrap64 (t157 * x8_2)))))) + x8_2))] rfl (by (try simp only [List.map_toArray, List.map_cons, List.map_nil]); first | done | rfl | (simp only [List.length_drop, List.length_take]; rfl)) ?_; (with_reducible refine (num_told.calls (wrap64 ((wrap64 (a0 - (wrap64 (a0 - (wrap64 (t157 * x8_2)))))) + x8_2)) t158 t159 _ A20.out).mono ?_); rintro e w' ⟨rfl, ⟨nd, rfl⟩⟩; refine ⟨_, rfl, ?_⟩))
                        go_ret2
                        exact ⟨by first | rfl | (simp; done) | (simp [*]; done) | (simp [Go.Proofs.YtnpcmgajplikbaaGreatDoor.X.bne_nil]; done), by repeat (first | exact Drawn0.refl _ | apply Drawn0.step)⟩
                      · replace c19 := Bool.eq_false_iff.mpr c19
                        subst c19
                        have H1 : ((num_told.f (wrap64 (a0 - (wrap64 (a0 - (wrap64 (t157 * x8_2))))))).bind fun bt160 => (some (bt160.1, bt160.2))) = some (r1, r2) := by rw [if_neg (show ¬ (false = true) by decide)] at H; exact H
                        clear H
                        have H := H1
                        clear H1
                        replace H := Option.bind_eq_some_iff.mp H
                        obtain ⟨⟨t160, t161⟩, A210, H⟩ := H
                        replace H : (some (t160, t161)) = some (r1, r2) := H
                        have A21 := Aside0.mk A210
                        clear A210
                        simp only [Option.some.injEq, Prod.mk.injEq] at H
                        obtain ⟨rfl, rfl⟩ := H
                        go_wp2_with (first | ((with_reducible refine gate_callee (f := 75) rfl ?_); refine goesL_ (some 41) rfl rfl Tryz.func75 (by kernel_rfl) rfl #[.int .i64 a0, .int .i64 x8_2] rfl (by (try simp only [List.map_toArray, List.map_cons, List.map_nil]); first | done | rfl | (simp only [List.length_drop, List.length_take]; rfl)) ?_; (with_reducible refine (num_floor.calls a0 x8_2 t157 _ A12.out).mono ?_); rintro e w' ⟨rfl, ⟨nd, rfl⟩⟩; refine ⟨_, rfl, ?_⟩; have p17 : 0 ≤ (a2 : Int) := of_decide_eq_true (by first | (with_reducible assumption) | assumption); have q17 : a2 < (5 : Int) := of_decide_eq_true (by first | (with_reducible assumption) | assumption); have hx17 : ∀ w_ : World, (Instr.index 80 (.agg #[.bool true, .bool (decide (a0 > 0)), .bool (decide (a0 < 0)), .bool true, .bool false]) (.int .i64 a2)).run Tryz.prog w_ = .ok (.bool (rdOf false ([true, decide (a0 > 0), decide (a0 < 0), true, false] : List Bool) a2)) w_ := fun w_ => Go.Proofs.YtnpcmgajplikbaaGreatDoor.X.run_index_array 80 4 5 _ _ _ _ (by kernel_rfl) (by kernel_rfl) (by kernel_rfl) p17 q17 (Go.Proofs.YtnpcmgajplikbaaGreatDoor.X.at_bools ([true, decide (a0 > 0), decide (a0 < 0), true, false] : List Bool) a2 q17 p17); (try rw [← Nbq18.out] at hx17); replace p17 := eq_true p17; replace q17 := eq_true q17) | ((with_reducible refine gate_callee (f := 76) rfl ?_); refine goesL_ (some 77) rfl rfl Tryz.func76 (by kernel_rfl) rfl #[.int .i64 (wrap64 (a0 - (wrap64 (a0 - (wrap64 (t157 * x8_2))))))] rfl (by (try simp only [List.map_toArray, List.map_cons, List.map_nil]); first | done | rfl | (simp only [List.length_drop, List.length_take]; rfl)) ?_; (with_reducible refine (num_told.calls (wrap64 (a0 - (wrap64 (a0 - (wrap64 (t157 * x8_2)))))) t160 t161 _ A21.out).mono ?_); rintro e w' ⟨rfl, ⟨nd, rfl⟩⟩; refine ⟨_, rfl, ?_⟩))
                        go_ret2
                        exact ⟨by first | rfl | (simp; done) | (simp [*]; done) | (simp [Go.Proofs.YtnpcmgajplikbaaGreatDoor.X.bne_nil]; done), by repeat (first | exact Drawn0.refl _ | apply Drawn0.step)⟩
                    · rw [if_neg c16] at H
                      exact absurd H (by simp)
                  · rw [if_neg c15] at H
                    exact absurd H (by simp)
                · rw [if_neg c14] at H
                  have c14b0 : decide (x8_2 < (wrap64 (2 * (wrap64 (a0 - (wrap64 (t157 * x8_2))))))) = false := decide_eq_false c14
                  clear c14
                  by_cases c22 : (wrap64 (2 * (wrap64 (a0 - (wrap64 (t157 * x8_2)))))) = x8_2
                  · rw [if_pos c22] at H
                    have c22b0 : ((wrap64 (2 * (wrap64 (a0 - (wrap64 (t157 * x8_2)))))) == x8_2) = true := beq_iff_eq.mpr c22
                    have c22b1 : ((wrap64 (2 * (wrap64 (a0 - (wrap64 (t157 * x8_2)))))) != x8_2) = false := bne_eq_false_iff_eq.mpr c22
                    clear c22
                    by_cases c23 : 0 ≤ a2
                    · rw [if_pos c23] at H
                      have c23b0 : decide (0 ≤ a2) = true := decide_eq_true c23
                      clear c23
                      by_cases c24 : a2 < 5
                      · rw [if_pos c24] at H
                        have c24b0 : decide (a2 < 5) = true := decide_eq_true c24
                        clear c24
                        obtain ⟨bq26, hbq26⟩ : ∃ b_ : Bool, b_ = ((rdOf false ([decide (a0 > 0), decide (a0 > 0), decide (a0 < 0), true, false] : List Bool) a2)) := ⟨_, rfl⟩
                        replace H : (if bq26 = true then ((num_told.f (wrap64 ((wrap64 (a0 - (wrap64 (a0 - (wrap64 (t157 * x8_2)))))) + x8_2))).bind fun bt162 => (some (bt162.1, bt162.2))) else ((num_told.f (wrap64 (a0 - (wrap64 (a0 - (wrap64 (t157 * x8_2))))))).bind fun bt164 => (some (bt164.1, bt164.2)))) = some (r1, r2) := by rw [← hbq26] at H; exact H
                        have Nbq26 := Aside0.mk hbq26
                        clear hbq26
                        by_cases c27 : bq26 = true
                        · subst c27
                          have H1 : ((num_told.f (wrap64 ((wrap64 (a0 - (wrap64 (a0 - (wrap64 (t157 * x8_2)))))) + x8_2))).bind fun bt162 => (some (bt162.1, bt162.2))) = some (r1, r2) := by rw [if_pos rfl] at H; exact H
                          clear H
                          have H := H1
                          clear H1
                          replace H := Option.bind_eq_some_iff.mp H
                          obtain ⟨⟨t162, t163⟩, A280, H⟩ := H
                          replace H : (some (t162, t163)) = some (r1, r2) := H
                          have A28 := Aside0.mk A280
                          clear A280
                          simp only [Option.some.injEq, Prod.mk.injEq] at H
                          obtain ⟨rfl, rfl⟩ := H
                          go_wp2_with (first | ((with_reducible refine gate_callee (f := 75) rfl ?_); refine goesL_ (some 41) rfl rfl Tryz.func75 (by kernel_rfl) rfl #[.int .i64 a0, .int .i64 x8_2] rfl (by (try simp only [List.map_toArray, List.map_cons, List.map_nil]); first | done | rfl | (simp only [List.length_drop, List.length_take]; rfl)) ?_; (with_reducible refine (num_floor.calls a0 x8_2 t157 _ A12.out).mono ?_); rintro e w' ⟨rfl, ⟨nd, rfl⟩⟩; refine ⟨_, rfl, ?_⟩; have p25 : 0 ≤ (a2 : Int) := of_decide_eq_true (by first | (with_reducible assumption) | assumption); have q25 : a2 < (5 : Int) := of_decide_eq_true (by first | (with_reducible assumption) | assumption); have hx25 : ∀ w_ : World, (Instr.index 80 (.agg #[.bool (decide (a0 > 0)), .bool (decide (a0 > 0)), .bool (decide (a0 < 0)), .bool true, .bool false]) (.int .i64 a2)).run Tryz.prog w_ = .ok (.bool (rdOf false ([decide (a0 > 0), decide (a0 > 0), decide (a0 < 0), true, false] : List Bool) a2)) w_ := fun w_ => Go.Proofs.YtnpcmgajplikbaaGreatDoor.X.run_index_array 80 4 5 _ _ _ _ (by kernel_rfl) (by kernel_rfl) (by kernel_rfl) p25 q25 (Go.Proofs.YtnpcmgajplikbaaGreatDoor.X.at_bools ([decide (a0 > 0), decide (a0 > 0), decide (a0 < 0), true, false] : List Bool) a2 q25 p25); (try rw [← Nbq26.out] at hx25); replace p25 := eq_true p25; replace q25 := eq_true q25) | ((with_reducible refine gate_callee (f := 76) rfl ?_); refine goesL_ (some 77) rfl rfl Tryz.func76 (by kernel_rfl) rfl #[.int .i64 (wrap64 ((wrap64 (a0 - (wrap64 (a0 - (wrap64 (t157 * x8_2)))))) + x8_2))] rfl (by (try simp only [List.map_toArray, List.map_cons, List.map_nil]); first | done | rfl | (simp only [List.length_drop, List.length_take]; rfl)) ?_; (with_reducible refine (num_told.calls (wrap64 ((wrap64 (a0 - (wrap64 (a0 - (wrap64 (t157 * x8_2)))))) + x8_2)) t162 t163 _ A28.out).mono ?_); rintro e w' ⟨rfl, ⟨nd, rfl⟩⟩; refine ⟨_, rfl, ?_⟩))
                          go_ret2
                          exact ⟨by first | rfl | (simp; done) | (simp [*]; done) | (simp [Go.Proofs.YtnpcmgajplikbaaGreatDoor.X.bne_nil]; done), by repeat (first | exact Drawn0.refl _ | apply Drawn0.step)⟩
                        · replace c27 := Bool.eq_false_iff.mpr c27
                          subst c27
                          have H1 : ((num_told.f (wrap64 (a0 - (wrap64 (a0 - (wrap64 (t157 * x8_2))))))).bind fun bt164 => (some (bt164.1, bt164.2))) = some (r1, r2) := by rw [if_neg (show ¬ (false = true) by decide)] at H; exact H
                          clear H
                          have H := H1
                          clear H1
                          replace H := Option.bind_eq_some_iff.mp H
                          obtain ⟨⟨t164, t165⟩, A290, H⟩ := H
                          replace H : (some (t164, t165)) = some (r1, r2) := H
                          have A29 := Aside0.mk A290
                          clear A290
                          simp only [Option.some.injEq, Prod.mk.injEq] at H
                          obtain ⟨rfl, rfl⟩ := H
                          go_wp2_with (first | ((with_reducible refine gate_callee (f := 75) rfl ?_); refine goesL_ (some 41) rfl rfl Tryz.func75 (by kernel_rfl) rfl #[.int .i64 a0, .int .i64 x8_2] rfl (by (try simp only [List.map_toArray, List.map_cons, List.map_nil]); first | done | rfl | (simp only [List.length_drop, List.length_take]; rfl)) ?_; (with_reducible refine (num_floor.calls a0 x8_2 t157 _ A12.out).mono ?_); rintro e w' ⟨rfl, ⟨nd, rfl⟩⟩; refine ⟨_, rfl, ?_⟩; have p25 : 0 ≤ (a2 : Int) := of_decide_eq_true (by first | (with_reducible assumption) | assumption); have q25 : a2 < (5 : Int) := of_decide_eq_true (by first | (with_reducible assumption) | assumption); have hx25 : ∀ w_ : World, (Instr.index 80 (.agg #[.bool (decide (a0 > 0)), .bool (decide (a0 > 0)), .bool (decide (a0 < 0)), .bool true, .bool false]) (.int .i64 a2)).run Tryz.prog w_ = .ok (.bool (rdOf false ([decide (a0 > 0), decide (a0 > 0), decide (a0 < 0), true, false] : List Bool) a2)) w_ := fun w_ => Go.Proofs.YtnpcmgajplikbaaGreatDoor.X.run_index_array 80 4 5 _ _ _ _ (by kernel_rfl) (by kernel_rfl) (by kernel_rfl) p25 q25 (Go.Proofs.YtnpcmgajplikbaaGreatDoor.X.at_bools ([decide (a0 > 0), decide (a0 > 0), decide (a0 < 0), true, false] : List Bool) a2 q25 p25); (try rw [← Nbq26.out] at hx25); replace p25 := eq_true p25; replace q25 := eq_true q25) | ((with_reducible refine gate_callee (f := 76) rfl ?_); refine goesL_ (some 77) rfl rfl Tryz.func76 (by kernel_rfl) rfl #[.int .i64 (wrap64 (a0 - (wrap64 (a0 - (wrap64 (t157 * x8_2))))))] rfl (by (try simp only [List.map_toArray, List.map_cons, List.map_nil]); first | done | rfl | (simp only [List.length_drop, List.length_take]; rfl)) ?_; (with_reducible refine (num_told.calls (wrap64 (a0 - (wrap64 (a0 - (wrap64 (t157 * x8_2)))))) t164 t165 _ A29.out).mono ?_); rintro e w' ⟨rfl, ⟨nd, rfl⟩⟩; refine ⟨_, rfl, ?_⟩))
                          go_ret2
                          exact ⟨by first | rfl | (simp; done) | (simp [*]; done) | (simp [Go.Proofs.YtnpcmgajplikbaaGreatDoor.X.bne_nil]; done), by repeat (first | exact Drawn0.refl _ | apply Drawn0.step)⟩
                      · rw [if_neg c24] at H
                        exact absurd H (by simp)
                    · rw [if_neg c23] at H
                      exact absurd H (by simp)
                  · rw [if_neg c22] at H
                    have c22b0 : ((wrap64 (2 * (wrap64 (a0 - (wrap64 (t157 * x8_2)))))) == x8_2) = false := beq_eq_false_iff_ne.mpr c22
                    have c22b1 : ((wrap64 (2 * (wrap64 (a0 - (wrap64 (t157 * x8_2)))))) != x8_2) = true := bne_iff_ne.mpr c22
                    by_cases c30 : 0 ≤ a2
                    · rw [if_pos c30] at H
                      have c30b0 : decide (0 ≤ a2) = true := decide_eq_true c30
                      clear c30
                      by_cases c31 : a2 < 5
                      · rw [if_pos c31] at H
                        have c31b0 : decide (a2 < 5) = true := decide_eq_true c31
                        clear c31
                        obtain ⟨bq33, hbq33⟩ : ∃ b_ : Bool, b_ = ((rdOf false ([false, decide (a0 > 0), decide (a0 < 0), true, false] : List Bool) a2)) := ⟨_, rfl⟩
                        replace H : (if bq33 = true then ((num_told.f (wrap64 ((wrap64 (a0 - (wrap64 (a0 - (wrap64 (t157 * x8_2)))))) + x8_2))).bind fun bt166 => (some (bt166.1, bt166.2))) else ((num_told.f (wrap64 (a0 - (wrap64 (a0 - (wrap64 (t157 * x8_2))))))).bind fun bt168 => (some (bt168.1, bt168.2)))) = some (r1, r2) := by rw [← hbq33] at H; exact H
                        have Nbq33 := Aside0.mk hbq33
                        clear hbq33
                        by_cases c34 : bq33 = true
                        · subst c34
                          have H1 : ((num_told.f (wrap64 ((wrap64 (a0 - (wrap64 (a0 - (wrap64 (t157 * x8_2)))))) + x8_2))).bind fun bt166 => (some (bt166.1, bt166.2))) = some (r1, r2) := by rw [if_pos rfl] at H; exact H
                          clear H
                          have H := H1
                          clear H1
                          replace H := Option.bind_eq_some_iff.mp H
                          obtain ⟨⟨t166, t167⟩, A350, H⟩ := H
                          replace H : (some (t166, t167)) = some (r1, r2) := H
                          have A35 := Aside0.mk A350
                          clear A350
                          simp only [Option.some.injEq, Prod.mk.injEq] at H
                          obtain ⟨rfl, rfl⟩ := H
                          go_wp2_with (first | ((with_reducible refine gate_callee (f := 75) rfl ?_); refine goesL_ (some 41) rfl rfl Tryz.func75 (by kernel_rfl) rfl #[.int .i64 a0, .int .i64 x8_2] rfl (by (try simp only [List.map_toArray, List.map_cons, List.map_nil]); first | done | rfl | (simp only [List.length_drop, List.length_take]; rfl)) ?_; (with_reducible refine (num_floor.calls a0 x8_2 t157 _ A12.out).mono ?_); rintro e w' ⟨rfl, ⟨nd, rfl⟩⟩; refine ⟨_, rfl, ?_⟩; have p32 : 0 ≤ (a2 : Int) := of_decide_eq_true (by first | (with_reducible assumption) | assumption); have q32 : a2 < (5 : Int) := of_decide_eq_true (by first | (with_reducible assumption) | assumption); have hx32 : ∀ w_ : World, (Instr.index 80 (.agg #[.bool false, .bool (decide (a0 > 0)), .bool (decide (a0 < 0)), .bool true, .bool false]) (.int .i64 a2)).run Tryz.prog w_ = .ok (.bool (rdOf false ([false, decide (a0 > 0), decide (a0 < 0), true, false] : List Bool) a2)) w_ := fun w_ => Go.Proofs.YtnpcmgajplikbaaGreatDoor.X.run_index_array 80 4 5 _ _ _ _ (by kernel_rfl) (by kernel_rfl) (by kernel_rfl) p32 q32 (Go.Proofs.YtnpcmgajplikbaaGreatDoor.X.at_bools ([false, decide (a0 > 0), decide (a0 < 0), true, false] : List Bool) a2 q32 p32); (try rw [← Nbq33.out] at hx32); replace p32 := eq_true p32; replace q32 := eq_true q32) | ((with_reducible refine gate_callee (f := 76) rfl ?_); refine goesL_ (some 77) rfl rfl Tryz.func76 (by kernel_rfl) rfl #[.int .i64 (wrap64 ((wrap64 (a0 - (wrap64 (a0 - (wrap64 (t157 * x8_2)))))) + x8_2))] rfl (by (try simp only [List.map_toArray, List.map_cons, List.map_nil]); first | done | rfl | (simp only [List.length_drop, List.length_take]; rfl)) ?_; (with_reducible refine (num_told.calls (wrap64 ((wrap64 (a0 - (wrap64 (a0 - (wrap64 (t157 * x8_2)))))) + x8_2)) t166 t167 _ A35.out).mono ?_); rintro e w' ⟨rfl, ⟨nd, rfl⟩⟩; refine ⟨_, rfl, ?_⟩))
                          go_ret2
                          exact ⟨by first | rfl | (simp; done) | (simp [*]; done) | (simp [Go.Proofs.YtnpcmgajplikbaaGreatDoor.X.bne_nil]; done), by repeat (first | exact Drawn0.refl _ | apply Drawn0.step)⟩
                        · replace c34 := Bool.eq_false_iff.mpr c34
                          subst c34
                          have H1 : ((num_told.f (wrap64 (a0 - (wrap64 (a0 - (wrap64 (t157 * x8_2))))))).bind fun bt168 => (some (bt168.1, bt168.2))) = some (r1, r2) := by rw [if_neg (show ¬ (false = true) by decide)] at H; exact H
                          clear H
                          have H := H1
                          clear H1
                          replace H := Option.bind_eq_some_iff.mp H
                          obtain ⟨⟨t168, t169⟩, A360, H⟩ := H
                          replace H : (some (t168, t169)) = some (r1, r2) := H
                          have A36 := Aside0.mk A360
                          clear A360
                          simp only [Option.some.injEq, Prod.mk.injEq] at H
                          obtain ⟨rfl, rfl⟩ := H
                          go_wp2_with (first | ((with_reducible refine gate_callee (f := 75) rfl ?_); refine goesL_ (some 41) rfl rfl Tryz.func75 (by kernel_rfl) rfl #[.int .i64 a0, .int .i64 x8_2] rfl (by (try simp only [List.map_toArray, List.map_cons, List.map_nil]); first | done | rfl | (simp only [List.length_drop, List.length_take]; rfl)) ?_; (with_reducible refine (num_floor.calls a0 x8_2 t157 _ A12.out).mono ?_); rintro e w' ⟨rfl, ⟨nd, rfl⟩⟩; refine ⟨_, rfl, ?_⟩; have p32 : 0 ≤ (a2 : Int) := of_decide_eq_true (by first | (with_reducible assumption) | assumption); have q32 : a2 < (5 : Int) := of_decide_eq_true (by first | (with_reducible assumption) | assumption); have hx32 : ∀ w_ : World, (Instr.index 80 (.agg #[.bool false, .bool (decide (a0 > 0)), .bool (decide (a0 < 0)), .bool true, .bool false]) (.int .i64 a2)).run Tryz.prog w_ = .ok (.bool (rdOf false ([false, decide (a0 > 0), decide (a0 < 0), true, false] : List Bool) a2)) w_ := fun w_ => Go.Proofs.YtnpcmgajplikbaaGreatDoor.X.run_index_array 80 4 5 _ _ _ _ (by kernel_rfl) (by kernel_rfl) (by kernel_rfl) p32 q32 (Go.Proofs.YtnpcmgajplikbaaGreatDoor.X.at_bools ([false, decide (a0 > 0), decide (a0 < 0), true, false] : List Bool) a2 q32 p32); (try rw [← Nbq33.out] at hx32); replace p32 := eq_true p32; replace q32 := eq_true q32) | ((with_reducible refine gate_callee (f := 76) rfl ?_); refine goesL_ (some 77) rfl rfl Tryz.func76 (by kernel_rfl) rfl #[.int .i64 (wrap64 (a0 - (wrap64 (a0 - (wrap64 (t157 * x8_2))))))] rfl (by (try simp only [List.map_toArray, List.map_cons, List.map_nil]); first | done | rfl | (simp only [List.length_drop, List.length_take]; rfl)) ?_; (with_reducible refine (num_told.calls (wrap64 (a0 - (wrap64 (a0 - (wrap64 (t157 * x8_2)))))) t168 t169 _ A36.out).mono ?_); rintro e w' ⟨rfl, ⟨nd, rfl⟩⟩; refine ⟨_, rfl, ?_⟩))
                          go_ret2
                          exact ⟨by first | rfl | (simp; done) | (simp [*]; done) | (simp [Go.Proofs.YtnpcmgajplikbaaGreatDoor.X.bne_nil]; done), by repeat (first | exact Drawn0.refl _ | apply Drawn0.step)⟩
                      · rw [if_neg c31] at H
                        exact absurd H (by simp)
                    · rw [if_neg c30] at H
                      exact absurd H (by simp)

/-! ### octavoref05_floor: function 102 -/
def octavoref05_floor.f (a0 : Int) (a1 : Int) : Option (Int) := if a1 = 0 then (none) else (if (Int.tmod a0 a1) = 0 then (some (wrap64 (Int.tdiv a0 a1))) else (if ((decide (a0 < 0)) != (decide (a1 < 0))) = true then (some (wrap64 ((wrap64 (Int.tdiv a0 a1)) - 1))) else (some (wrap64 (Int.tdiv a0 a1)))))
set_option maxHeartbeats 8000000 in
set_option maxRecDepth 100000 in
theorem octavoref05_floor.calls (a0 : Int) (a1 : Int) (r : Int) (w : World) (h : octavoref05_floor.f a0 a1 = some r) :
    Calls Tryz.prog 102 #[.int .i64 a0, .int .i64 a1] w fun e w' => e = .returned (.int .i64 r) ∧ Drawn0 w w' := by
  have H : (if a1 = 0 then (none) else (if (Int.tmod a0 a1) = 0 then (some (wrap64 (Int.tdiv a0 a1))) else (if ((decide (a0 < 0)) != (decide (a1 < 0))) = true then (some (wrap64 ((wrap64 (Int.tdiv a0 a1)) - 1))) else (some (wrap64 (Int.tdiv a0 a1)))))) = some r := h
  clear h
  by_cases c3 : a1 = 0
  · rw [if_pos c3] at H
    exact absurd H (by simp)
  · rw [if_neg c3] at H
    have c3b0 : (a1 == 0) = false := beq_eq_false_iff_ne.mpr c3
    have c3b1 : (a1 != 0) = true := bne_iff_ne.mpr c3
    by_cases c4 : (Int.tmod a0 a1) = 0
    · rw [if_pos c4] at H
      have c4b0 : ((Int.tmod a0 a1) == 0) = true := beq_iff_eq.mpr c4
      have c4b1 : ((Int.tmod a0 a1) != 0) = false := bne_eq_false_iff_eq.mpr c4
      clear c4
      obtain rfl := Option.some.inj H
      go_enter Tryz.func102, Tryz.ntmps102
      go_wp2
      go_ret
      exact ⟨by first | rfl | (simp; done) | (simp [*]; done) | (simp [Go.Proofs.YtnpcmgajplikbaaGreatDoor.X.bne_nil]; done), by repeat (first | exact Drawn0.refl _ | apply Drawn0.step)⟩
    · rw [if_neg c4] at H
      have c4b0 : ((Int.tmod a0 a1) == 0) = false := beq_eq_false_iff_ne.mpr c4
      have c4b1 : ((Int.tmod a0 a1) != 0) = true := bne_iff_ne.mpr c4
      by_cases c5 : ((decide (a0 < 0)) != (decide (a1 < 0))) = true
      · rw [if_pos c5] at H
        have c5b0 : ((decide (a0 < 0)) != (decide (a1 < 0))) = true := c5
        (try (have c5b1 : decide ((decide (a0 < 0)) = (decide (a1 < 0))) = false := by simpa using c5))
        (try (have c5b2 : ((decide (a0 < 0)) == (decide (a1 < 0))) = false := by simpa using c5))
        (try (have c5b3 : ¬ ((decide (a0 < 0)) = (decide (a1 < 0))) := by simpa using c5))
        clear c5
        obtain rfl := Option.some.inj H
        go_enter Tryz.func102, Tryz.ntmps102
        go_wp2
        go_ret
        exact ⟨by first | rfl | (simp; done) | (simp [*]; done) | (simp [Go.Proofs.YtnpcmgajplikbaaGreatDoor.X.bne_nil]; done), by repeat (first | exact Drawn0.refl _ | apply Drawn0.step)⟩
      · rw [if_neg c5] at H
        have c5b0 : ((decide (a0 < 0)) != (decide (a1 < 0))) = false := by simpa using c5
        (try (have c5b1 : decide ((decide (a0 < 0)) = (decide (a1 < 0))) = true := by simpa using c5))
        (try (have c5b2 : ((decide (a0 < 0)) == (decide (a1 < 0))) = true := by simpa using c5))
        clear c5
        obtain rfl := Option.some.inj H
        go_enter Tryz.func102, Tryz.ntmps102
        go_wp2
        go_ret
        exact ⟨by first | rfl | (simp; done) | (simp [*]; done) | (simp [Go.Proofs.YtnpcmgajplikbaaGreatDoor.X.bne_nil]; done), by repeat (first | exact Drawn0.refl _ | apply Drawn0.step)⟩

/-! ### value_own: function 58 -/
theorem value_own.k0 (n : Int) (s : ByteArray) (w : World) :
    Calls Tryz.prog 58 #[.agg #[.int .i64 0, .int .i64 n, .string s]] w fun e w' => e = .returned (.iface 68 (.agg #[])) ∧ Below w.heap.size w w' := by
  have hu := Tryz.underlying26
  have hub := Tryz.underlying68
  go_enter Tryz.func58, Tryz.ntmps58
  go_wp2
  go_ret
  exact ⟨rfl, (Below.refl _ _).alloc (Nat.le_refl _) _⟩
theorem value_own.k1 (n : Int) (s : ByteArray) (w : World) :
    Calls Tryz.prog 58 #[.agg #[.int .i64 1, .int .i64 n, .string s]] w fun e w' => e = .returned (.iface 69 (.int .i64 n)) ∧ Below w.heap.size w w' := by
  have hu := Tryz.underlying26
  go_enter Tryz.func58, Tryz.ntmps58
  go_wp2
  go_ret
  exact ⟨rfl, (Below.refl _ _).alloc (Nat.le_refl _) _⟩
theorem value_own.k2 (n : Int) (s : ByteArray) (w : World) :
    Calls Tryz.prog 58 #[.agg #[.int .i64 2, .int .i64 n, .string s]] w fun e w' => e = .returned (.iface 70 (.string s)) ∧ Below w.heap.size w w' := by
  have hu := Tryz.underlying26
  go_enter Tryz.func58, Tryz.ntmps58
  go_wp2
  go_ret
  exact ⟨rfl, (Below.refl _ _).alloc (Nat.le_refl _) _⟩
theorem value_own.k3 (n : Int) (s : ByteArray) (w : World) :
    Calls Tryz.prog 58 #[.agg #[.int .i64 3, .int .i64 n, .string s]] w fun e w' => e = .returned (.iface 71 (.bool (n != 0))) ∧ Below w.heap.size w w' := by
  have hu := Tryz.underlying26
  go_enter Tryz.func58, Tryz.ntmps58
  go_wp2
  go_ret
  exact ⟨rfl, (Below.refl _ _).alloc (Nat.le_refl _) _⟩
theorem value_own.k4 (n : Int) (s : ByteArray) (w : World) :
    Calls Tryz.prog 58 #[.agg #[.int .i64 4, .int .i64 n, .string s]] w fun e w' => e = .returned (.iface 72 (.int .i64 n)) ∧ Below w.heap.size w w' := by
  have hu := Tryz.underlying26
  go_enter Tryz.func58, Tryz.ntmps58
  go_wp2
  go_ret
  exact ⟨rfl, (Below.refl _ _).alloc (Nat.le_refl _) _⟩
theorem value_own.kx (k n : Int) (s : ByteArray) (h0 : (k == 0) = false) (h1 : (k == 1) = false) (h2 : (k == 2) = false) (h3 : (k == 3) = false) (h4 : (k == 4) = false) (w : World) :
    Calls Tryz.prog 58 #[.agg #[.int .i64 k, .int .i64 n, .string s]] w fun e w' => e = .returned .nilIface ∧ Below w.heap.size w w' := by
  have hu := Tryz.underlying26
  go_enter Tryz.func58, Tryz.ntmps58
  go_wp2
  go_ret
  exact ⟨rfl, (Below.refl _ _).alloc (Nat.le_refl _) _⟩
/-- what the callee left of the block of the argument -/
theorem value_own.kept {w w1 : World} {cs : Array Value} {t : Nat} (h : Below (w.alloc (.cells cs t)).heap.size (w.alloc (.cells cs t)) w1) :
    (∀ o, w1.cell? ⟨w.heap.size, o, none⟩ = cs[o]?) ∧ Below w.heap.size w w1 ∧ w.heap.size < w1.heap.size := by
  refine ⟨fun o => ?_, ((Below.refl _ _).alloc (Nat.le_refl _) _).trans (h.mono (by simp)), by have := h.size; simp at this; omega⟩
  rw [h.cell (p := ⟨w.heap.size, o, none⟩) (by simp)]
  exact cell_of_row _ _ o cs t (0, 0) (heap_alloc_new w _)
set_option maxRecDepth 100000 in
theorem value_own.ta0 : (∀ (v : Value) (W : World), (Instr.typeAssert (.iface 68 v) 20 68 true).run Tryz.prog W = .ok (.tuple #[v, .bool true]) W) ∧ (∀ (v : Value) (W : World), (Instr.typeAssert (.iface 68 v) 20 69 true).run Tryz.prog W = .ok (.tuple #[.int .i64 0, .bool false]) W) ∧ (∀ (v : Value) (W : World), (Instr.typeAssert (.iface 68 v) 20 70 true).run Tryz.prog W = .ok (.tuple #[.string ⟨#[]⟩, .bool false]) W) ∧ (∀ (v : Value) (W : World), (Instr.typeAssert (.iface 68 v) 20 71 true).run Tryz.prog W = .ok (.tuple #[.bool false, .bool false]) W) ∧ (∀ (v : Value) (W : World), (Instr.typeAssert (.iface 68 v) 20 72 true).run Tryz.prog W = .ok (.tuple #[.int .i64 0, .bool false]) W) := ⟨fun v W => by rfl, fun v W => by rfl, fun v W => by rfl, fun v W => by rfl, fun v W => by rfl⟩
set_option maxRecDepth 100000 in
theorem value_own.ta1 : (∀ (v : Value) (W : World), (Instr.typeAssert (.iface 69 v) 20 68 true).run Tryz.prog W = .ok (.tuple #[.agg #[], .bool false]) W) ∧ (∀ (v : Value) (W : World), (Instr.typeAssert (.iface 69 v) 20 69 true).run Tryz.prog W = .ok (.tuple #[v, .bool true]) W) ∧ (∀ (v : Value) (W : World), (Instr.typeAssert (.iface 69 v) 20 70 true).run Tryz.prog W = .ok (.tuple #[.string ⟨#[]⟩, .bool false]) W) ∧ (∀ (v : Value) (W : World), (Instr.typeAssert (.iface 69 v) 20 71 true).run Tryz.prog W = .ok (.tuple #[.bool false, .bool false]) W) ∧ (∀ (v : Value) (W : World), (Instr.typeAssert (.iface 69 v) 20 72 true).run Tryz.prog W = .ok (.tuple #[.int .i64 0, .bool false]) W) := ⟨fun v W => by rfl, fun v W => by rfl, fun v W => by rfl, fun v W => by rfl, fun v W => by rfl⟩
set_option maxRecDepth 100000 in
theorem value_own.ta2 : (∀ (v : Value) (W : World), (Instr.typeAssert (.iface 70 v) 20 68 true).run Tryz.prog W = .ok (.tuple #[.agg #[], .bool false]) W) ∧ (∀ (v : Value) (W : World), (Instr.typeAssert (.iface 70 v) 20 69 true).run Tryz.prog W = .ok (.tuple #[.int .i64 0, .bool false]) W) ∧ (∀ (v : Value) (W : World), (Instr.typeAssert (.iface 70 v) 20 70 true).run Tryz.prog W = .ok (.tuple #[v, .bool true]) W) ∧ (∀ (v : Value) (W : World), (Instr.typeAssert (.iface 70 v) 20 71 true).run Tryz.prog W = .ok (.tuple #[.bool false, .bool false]) W) ∧ (∀ (v : Value) (W : World), (Instr.typeAssert (.iface 70 v) 20 72 true).run Tryz.prog W = .ok (.tuple #[.int .i64 0, .bool false]) W) := ⟨fun v W => by rfl, fun v W => by rfl, fun v W => by rfl, fun v W => by rfl, fun v W => by rfl⟩
set_option maxRecDepth 100000 in
theorem value_own.ta3 : (∀ (v : Value) (W : World), (Instr.typeAssert (.iface 71 v) 20 68 true).run Tryz.prog W = .ok (.tuple #[.agg #[], .bool false]) W) ∧ (∀ (v : Value) (W : World), (Instr.typeAssert (.iface 71 v) 20 69 true).run Tryz.prog W = .ok (.tuple #[.int .i64 0, .bool false]) W) ∧ (∀ (v : Value) (W : World), (Instr.typeAssert (.iface 71 v) 20 70 true).run Tryz.prog W = .ok (.tuple #[.string ⟨#[]⟩, .bool false]) W) ∧ (∀ (v : Value) (W : World), (Instr.typeAssert (.iface 71 v) 20 71 true).run Tryz.prog W = .ok (.tuple #[v, .bool true]) W) ∧ (∀ (v : Value) (W : World), (Instr.typeAssert (.iface 71 v) 20 72 true).run Tryz.prog W = .ok (.tuple #[.int .i64 0, .bool false]) W) := ⟨fun v W => by rfl, fun v W => by rfl, fun v W => by rfl, fun v W => by rfl, fun v W => by rfl⟩
set_option maxRecDepth 100000 in
theorem value_own.ta4 : (∀ (v : Value) (W : World), (Instr.typeAssert (.iface 72 v) 20 68 true).run Tryz.prog W = .ok (.tuple #[.agg #[], .bool false]) W) ∧ (∀ (v : Value) (W : World), (Instr.typeAssert (.iface 72 v) 20 69 true).run Tryz.prog W = .ok (.tuple #[.int .i64 0, .bool false]) W) ∧ (∀ (v : Value) (W : World), (Instr.typeAssert (.iface 72 v) 20 70 true).run Tryz.prog W = .ok (.tuple #[.string ⟨#[]⟩, .bool false]) W) ∧ (∀ (v : Value) (W : World), (Instr.typeAssert (.iface 72 v) 20 71 true).run Tryz.prog W = .ok (.tuple #[.bool false, .bool false]) W) ∧ (∀ (v : Value) (W : World), (Instr.typeAssert (.iface 72 v) 20 72 true).run Tryz.prog W = .ok (.tuple #[v, .bool true]) W) := ⟨fun v W => by rfl, fun v W => by rfl, fun v W => by rfl, fun v W => by rfl, fun v W => by rfl⟩
set_option maxRecDepth 100000 in
theorem value_own.tax : (∀ (W : World), (Instr.typeAssert .nilIface 20 68 true).run Tryz.prog W = .ok (.tuple #[.agg #[], .bool false]) W) ∧ (∀ (W : World), (Instr.typeAssert .nilIface 20 69 true).run Tryz.prog W = .ok (.tuple #[.int .i64 0, .bool false]) W) ∧ (∀ (W : World), (Instr.typeAssert .nilIface 20 70 true).run Tryz.prog W = .ok (.tuple #[.string ⟨#[]⟩, .bool false]) W) ∧ (∀ (W : World), (Instr.typeAssert .nilIface 20 71 true).run Tryz.prog W = .ok (.tuple #[.bool false, .bool false]) W) ∧ (∀ (W : World), (Instr.typeAssert .nilIface 20 72 true).run Tryz.prog W = .ok (.tuple #[.int .i64 0, .bool false]) W) := ⟨fun W => by rfl, fun W => by rfl, fun W => by rfl, fun W => by rfl, fun W => by rfl⟩
/-! ### value_ToNum: function 115 -/
def value_ToNum.f (k : Nat) (a0_0 : Int) (a0_1 : Int) (a0_2 : ByteArray) : Option (Int × Int) := if a0_0 = 0 then (some (0, 0)) else (if a0_0 = 1 then (some (a0_1, 0)) else (if a0_0 = 3 then (if a0_1 = 0 then (some (0, 0)) else (some (10000, 0))) else (if a0_0 = 2 then ((num_Parse.f k a0_2).bind fun bt => (if bt.2 = true then (some (bt.1, 0)) else (some (0, 2)))) else (if a0_0 = 4 then (some (0, a0_1)) else (some (0, 2))))))
theorem value_ToNum.mono : ∀ a0 a1 a2 k, LeO (value_ToNum.f k a0 a1 a2) (value_ToNum.f (k + 1) a0 a1 a2) := by
  intro a0 a1 a2 k
  unfold value_ToNum.f
  repeat' first
      | (with_reducible exact num_Parse.mono _ _)
      | (with_reducible exact LeO.refl _)
      | (with_reducible exact LeO.none _)
      | (with_reducible refine LeO.ite ?_ ?_)
      | (with_reducible refine LeO.bind ?_ (fun _ => ?_))
set_option maxHeartbeats 8000000 in
set_option maxRecDepth 100000 in
theorem value_ToNum.calls (k : Nat) (a0_0 : Int) (a0_1 : Int) (a0_2 : ByteArray) (r1 : Int) (r2 : Int) (w : World) (h : value_ToNum.f k a0_0 a0_1 a0_2 = some (r1, r2)) :
    Calls Tryz.prog 115 #[.agg #[.int .i64 a0_0, .int .i64 a0_1, .string a0_2]] w fun e w' => e = .returned (.tuple #[.int .i64 r1, .int .i64 r2]) ∧ Below w.heap.size w w' := by
  unfold value_ToNum.f at h
  have hu := Tryz.underlying26
  have hub := Tryz.underlying68
  by_cases c0 : a0_0 = 0
  · subst c0
    rw [if_pos rfl] at h
    simp only [Option.some.injEq, Prod.mk.injEq] at h
    obtain ⟨rfl, rfl⟩ := h
    obtain ⟨ta0, ta1, ta2, ta3, ta4⟩ := value_own.ta0
    go_enter Tryz.func115, Tryz.ntmps115
    go_wp2_with (go_at_call 58; refine (value_own.k0 _ _ _).mono ?_; rintro e w1 ⟨rfl, hb⟩; obtain ⟨hc, hb1, hz⟩ := value_own.kept hb; clear hb)
    go_ret2
    exact ⟨rfl, hb1.alloc hb1.size _⟩
  rw [if_neg c0] at h
  by_cases c1 : a0_0 = 1
  · subst c1
    rw [if_pos rfl] at h
    simp only [Option.some.injEq, Prod.mk.injEq] at h
    obtain ⟨rfl, rfl⟩ := h
    obtain ⟨ta0, ta1, ta2, ta3, ta4⟩ := value_own.ta1
    go_enter Tryz.func115, Tryz.ntmps115
    go_wp2_with (go_at_call 58; refine (value_own.k1 _ _ _).mono ?_; rintro e w1 ⟨rfl, hb⟩; obtain ⟨hc, hb1, hz⟩ := value_own.kept hb; clear hb)
    go_ret2
    exact ⟨rfl, hb1⟩
  rw [if_neg c1] at h
  by_cases c3 : a0_0 = 3
  · subst c3
    rw [if_pos rfl] at h
    by_cases d : a0_1 = 0
    · rw [if_pos d] at h
      have d0 : (a0_1 != 0) = false := bne_eq_false_iff_eq.mpr d
      clear d
      simp only [Option.some.injEq, Prod.mk.injEq] at h
      obtain ⟨rfl, rfl⟩ := h
      obtain ⟨ta0, ta1, ta2, ta3, ta4⟩ := value_own.ta3
      go_enter Tryz.func115, Tryz.ntmps115
      go_wp2_with (go_at_call 58; refine (value_own.k3 _ _ _).mono ?_; rintro e w1 ⟨rfl, hb⟩; obtain ⟨hc, hb1, hz⟩ := value_own.kept hb; clear hb)
      go_ret2
      exact ⟨rfl, hb1⟩
    · rw [if_neg d] at h
      have d0 : (a0_1 != 0) = true := bne_iff_ne.mpr d
      clear d
      simp only [Option.some.injEq, Prod.mk.injEq] at h
      obtain ⟨rfl, rfl⟩ := h
      obtain ⟨ta0, ta1, ta2, ta3, ta4⟩ := value_own.ta3
      go_enter Tryz.func115, Tryz.ntmps115
      go_wp2_with (go_at_call 58; refine (value_own.k3 _ _ _).mono ?_; rintro e w1 ⟨rfl, hb⟩; obtain ⟨hc, hb1, hz⟩ := value_own.kept hb; clear hb)
      go_ret2
      exact ⟨rfl, hb1⟩
  rw [if_neg c3] at h
  by_cases c2 : a0_0 = 2
  · subst c2
    rw [if_pos rfl] at h
    obtain ⟨⟨t, b⟩, hp, h⟩ := Option.bind_eq_some_iff.mp h
    have HP := Aside0.mk hp
    clear hp
    cases b with
    | true =>
      rw [if_pos rfl] at h
      simp only [Option.some.injEq, Prod.mk.injEq] at h
      obtain ⟨rfl, rfl⟩ := h
      obtain ⟨ta0, ta1, ta2, ta3, ta4⟩ := value_own.ta2
      go_enter Tryz.func115, Tryz.ntmps115
      go_wp2_with (first
        | (go_at_call 58; refine (value_own.k2 _ _ _).mono ?_; rintro e w1 ⟨rfl, hb⟩; obtain ⟨hc, hb1, hz⟩ := value_own.kept hb; clear hb)
        | (go_at_call 128; refine (num_Parse.calls _ _ _ _ _ HP.out).mono ?_; rintro e w2 ⟨rfl, hb2⟩))
      go_ret2
      exact ⟨rfl, hb1.trans (hb2.mono hb1.size)⟩
    | false =>
      rw [if_neg Bool.false_ne_true] at h
      simp only [Option.some.injEq, Prod.mk.injEq] at h
      obtain ⟨rfl, rfl⟩ := h
      obtain ⟨ta0, ta1, ta2, ta3, ta4⟩ := value_own.ta2
      go_enter Tryz.func115, Tryz.ntmps115
      go_wp2_with (first
        | (go_at_call 58; refine (value_own.k2 _ _ _).mono ?_; rintro e w1 ⟨rfl, hb⟩; obtain ⟨hc, hb1, hz⟩ := value_own.kept hb; clear hb)
        | (go_at_call 128; refine (num_Parse.calls _ _ _ _ _ HP.out).mono ?_; rintro e w2 ⟨rfl, hb2⟩))
      go_ret2
      exact ⟨rfl, hb1.trans (hb2.mono hb1.size)⟩
  rw [if_neg c2] at h
  by_cases c4 : a0_0 = 4
  · subst c4
    rw [if_pos rfl] at h
    simp only [Option.some.injEq, Prod.mk.injEq] at h
    obtain ⟨rfl, rfl⟩ := h
    obtain ⟨ta0, ta1, ta2, ta3, ta4⟩ := value_own.ta4
    go_enter Tryz.func115, Tryz.ntmps115
    go_wp2_with (go_at_call 58; refine (value_own.k4 _ _ _).mono ?_; rintro e w1 ⟨rfl, hb⟩; obtain ⟨hc, hb1, hz⟩ := value_own.kept hb; clear hb)
    go_ret2
    exact ⟨rfl, hb1⟩
  rw [if_neg c4] at h
  simp only [Option.some.injEq, Prod.mk.injEq] at h
  obtain ⟨rfl, rfl⟩ := h
  have HX := fun w => value_own.kx a0_0 a0_1 a0_2 (beq_eq_false_iff_ne.mpr c0) (beq_eq_false_iff_ne.mpr c1) (beq_eq_false_iff_ne.mpr c2) (beq_eq_false_iff_ne.mpr c3) (beq_eq_false_iff_ne.mpr c4) w
  clear c0 c1 c2 c3 c4
  obtain ⟨ta0, ta1, ta2, ta3, ta4⟩ := value_own.tax
  go_enter Tryz.func115, Tryz.ntmps115
  go_wp2_with (go_at_call 58; refine (HX _).mono ?_; rintro e w1 ⟨rfl, hb⟩; obtain ⟨hc, hb1, hz⟩ := value_own.kept hb; clear hb)
  go_ret2
  exact ⟨rfl, hb1⟩
end Go.Proofs.YtnpcmgajplikbaaGreatDoor.P
