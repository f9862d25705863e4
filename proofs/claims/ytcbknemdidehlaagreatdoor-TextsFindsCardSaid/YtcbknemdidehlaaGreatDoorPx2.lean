-- Written by a program of this session (wip/tools/xprint.py), out of the seat's translation. Not trusted: Lean checks it.
import Derived.Test.YtcbknemdidehlaaGreatDoorPx0
import Derived.Test.YtcbknemdidehlaaGreatDoorPx1
namespace Go.Proofs.YtcbknemdidehlaaGreatDoor.P
open Go.RowKit Go.Proofs.YtcbknemdidehlaaGreatDoorW.PrintWords Go.Proofs.YtcbknemdidehlaaGreatDoorW.PrintLast Go.Proofs.YtcbknemdidehlaaGreatDoorW.PrintMore
attribute [local go_sem] max2_int min2_int max_two min_two max_three min_three max_four min_four X.binOp_str_gtr X.binOp_str_leq   -- for this text's walks alone
set_option linter.unusedVariables false
set_option linter.unusedSimpArgs false

/-! ### num_floor: function 165 -/
def num_floor.f (a0 : Int) (a1 : Int) : Option (Int) := if a1 = 0 then (none) else (if (Int.tmod a0 a1) = 0 then (some (wrap64 (Int.tdiv a0 a1))) else (if (Go.bits .xor .i64 (Int.tmod a0 a1) a1) < 0 then (some (wrap64 ((wrap64 (Int.tdiv a0 a1)) - 1))) else (some (wrap64 (Int.tdiv a0 a1)))))
set_option maxHeartbeats 8000000 in
set_option maxRecDepth 100000 in
theorem num_floor.calls (a0 : Int) (a1 : Int) (r : Int) (w : World) (h : num_floor.f a0 a1 = some r) :
    Calls Tryz.prog 165 #[.int .i64 a0, .int .i64 a1] w fun e w' => e = .returned (.int .i64 r) ∧ Drawn0 w w' := by
  have H : (if a1 = 0 then (none) else (if (Int.tmod a0 a1) = 0 then (some (wrap64 (Int.tdiv a0 a1))) else (if (Go.bits .xor .i64 (Int.tmod a0 a1) a1) < 0 then (some (wrap64 ((wrap64 (Int.tdiv a0 a1)) - 1))) else (some (wrap64 (Int.tdiv a0 a1)))))) = some r := h
  clear h
  by_cases c3 : a1 = 0
  · rw [if_pos c3] at H
    exact absurd H (by simp)
  · rw [if_neg c3] at H
    have c3b0 : (a1 == 0) = false := beq_eq_false_iff_ne.mpr c3
    have c3b1 : (a1 != 0) = true := bne_iff_ne.mpr c3
    by_cases c4 : (Int.tmod a0 a1) = 0
    · rw [if_pos c4] at H
      have c4b0 : ((Int.tmod a0 a1) == 0) = true := beq_iff_eq.mpr c4
      have c4b1 : ((Int.tmod a0 a1) != 0) = false := bne_eq_false_iff_eq.mpr c4
      clear c4
      obtain rfl := Option.some.inj H
      go_enter Tryz.func165, Tryz.ntmps165
      go_wp2
      repeat (go_quiet (fail); try go_wp2)
      go_ret
      exact ⟨by first | rfl | (simp; done) | (simp [*]; done) | (simp [Go.Proofs.YtcbknemdidehlaaGreatDoor.X.bne_nil]; done), by repeat (first | exact Drawn0.refl _ | apply Drawn0.step)⟩
    · rw [if_neg c4] at H
      have c4b0 : ((Int.tmod a0 a1) == 0) = false := beq_eq_false_iff_ne.mpr c4
      have c4b1 : ((Int.tmod a0 a1) != 0) = true := bne_iff_ne.mpr c4
      by_cases c5 : (Go.bits .xor .i64 (Int.tmod a0 a1) a1) < 0
      · rw [if_pos c5] at H
        have c5b0 : decide ((Go.bits .xor .i64 (Int.tmod a0 a1) a1) < 0) = true := decide_eq_true c5
        clear c5
        obtain rfl := Option.some.inj H
        go_enter Tryz.func165, Tryz.ntmps165
        go_wp2
        repeat (go_quiet (fail); try go_wp2)
        go_ret
        exact ⟨by first | rfl | (simp; done) | (simp [*]; done) | (simp [Go.Proofs.YtcbknemdidehlaaGreatDoor.X.bne_nil]; done), by repeat (first | exact Drawn0.refl _ | apply Drawn0.step)⟩
      · rw [if_neg c5] at H
        have c5b0 : decide ((Go.bits .xor .i64 (Int.tmod a0 a1) a1) < 0) = false := decide_eq_false c5
        clear c5
        obtain rfl := Option.some.inj H
        go_enter Tryz.func165, Tryz.ntmps165
        go_wp2
        repeat (go_quiet (fail); try go_wp2)
        go_ret
        exact ⟨by first | rfl | (simp; done) | (simp [*]; done) | (simp [Go.Proofs.YtcbknemdidehlaaGreatDoor.X.bne_nil]; done), by repeat (first | exact Drawn0.refl _ | apply Drawn0.step)⟩

/-! ### num_Round: function 139 -/
mutual
def num_Round.j0 : Nat → Int → Int → Int → Bool → Option (Int × Bool)
  | 0, _, _, _, _ => none
  | k + 1, x0, x1, x2, x30 => if x30 = true then (some (0, false)) else (num_Round.l0 k x0 x2 1 (wrap64 (4 - x1)) 0)
def num_Round.l0 : Nat → Int → Int → Int → Int → Int → Option (Int × Bool)
  | 0, _, _, _, _, _ => none
  | k + 1, x0, x2, x8, x32, x33 => if x33 < x32 then (num_Round.l0 k x0 x2 (wrap64 (x8 * 10)) x32 (wrap64 (x33 + 1))) else ((num_floor.f x0 x8).bind fun t108 => (if (wrap64 (x0 - (wrap64 (t108 * x8)))) = 0 then (some (x0, true)) else (if (wrap64 (2 * (wrap64 (x0 - (wrap64 (t108 * x8)))))) > x8 then (if 0 ≤ x2 then (if x2 < 5 then (if (rdOf false ([true, decide (x0 > 0), decide (x0 < 0), true, false] : List Bool) x2) = true then ((num_told.f (wrap64 ((wrap64 (x0 - (wrap64 (x0 - (wrap64 (t108 * x8)))))) + x8))).bind fun bt109 => (some (bt109.1, bt109.2))) else ((num_told.f (wrap64 (x0 - (wrap64 (x0 - (wrap64 (t108 * x8))))))).bind fun bt111 => (some (bt111.1, bt111.2)))) else (none)) else (none)) else (if (wrap64 (2 * (wrap64 (x0 - (wrap64 (t108 * x8)))))) = x8 then (if 0 ≤ x2 then (if x2 < 5 then (if (rdOf false ([decide (x0 > 0), decide (x0 > 0), decide (x0 < 0), true, false] : List Bool) x2) = true then ((num_told.f (wrap64 ((wrap64 (x0 - (wrap64 (x0 - (wrap64 (t108 * x8)))))) + x8))).bind fun bt113 => (some (bt113.1, bt113.2))) else ((num_told.f (wrap64 (x0 - (wrap64 (x0 - (wrap64 (t108 * x8))))))).bind fun bt115 => (some (bt115.1, bt115.2)))) else (none)) else (none)) else (if 0 ≤ x2 then (if x2 < 5 then (if (rdOf false ([false, decide (x0 > 0), decide (x0 < 0), true, false] : List Bool) x2) = true then ((num_told.f (wrap64 ((wrap64 (x0 - (wrap64 (x0 - (wrap64 (t108 * x8)))))) + x8))).bind fun bt117 => (some (bt117.1, bt117.2))) else ((num_told.f (wrap64 (x0 - (wrap64 (x0 - (wrap64 (t108 * x8))))))).bind fun bt119 => (some (bt119.1, bt119.2)))) else (none)) else (none))))))
end
def num_Round.f (k : Nat) (a0 : Int) (a1 : Int) (a2 : Int) : Option (Int × Bool) := (num_Good.f a0).bind fun t107 => (if t107 = true then (if a1 < (-8) then (num_Round.j0 k a0 a1 a2 true) else (if a1 > 4 then (num_Round.j0 k a0 a1 a2 true) else (if a2 < 0 then (num_Round.j0 k a0 a1 a2 true) else (num_Round.j0 k a0 a1 a2 (decide (a2 > 4)))))) else (num_Round.j0 k a0 a1 a2 true))
theorem num_Round.mono_l : ∀ k, (∀ y0 y1 y2 y3, LeO (num_Round.j0 k y0 y1 y2 y3) (num_Round.j0 (k + 1) y0 y1 y2 y3)) ∧ (∀ y0 y1 y2 y3 y4, LeO (num_Round.l0 k y0 y1 y2 y3 y4) (num_Round.l0 (k + 1) y0 y1 y2 y3 y4))
  | 0 => ⟨fun _ _ _ _ r h => by simp [num_Round.j0] at h, fun _ _ _ _ _ r h => by simp [num_Round.l0] at h⟩
  | k + 1 => by
    obtain ⟨ih0, ih1⟩ := num_Round.mono_l k
    refine ⟨?_, ?_⟩
    · intro y0 y1 y2 y3
      unfold num_Round.j0
      repeat' first
      | (with_reducible exact ih0 _ _ _ _)
      | (with_reducible exact ih1 _ _ _ _ _)
      | (with_reducible exact LeO.refl _)
      | (with_reducible exact LeO.none _)
      | (with_reducible refine LeO.ite ?_ ?_)
      | (with_reducible refine LeO.bind ?_ (fun _ => ?_))
      | exact ih0 _ _ _ _
      | exact ih1 _ _ _ _ _
      | exact LeO.none _
      | refine LeO.ite ?_ ?_
      | refine LeO.bind ?_ (fun _ => ?_)
    · intro y0 y1 y2 y3 y4
      unfold num_Round.l0
      repeat' first
      | (with_reducible exact ih0 _ _ _ _)
      | (with_reducible exact ih1 _ _ _ _ _)
      | (with_reducible exact LeO.refl _)
      | (with_reducible exact LeO.none _)
      | (with_reducible refine LeO.ite ?_ ?_)
      | (with_reducible refine LeO.bind ?_ (fun _ => ?_))
      | exact ih0 _ _ _ _
      | exact ih1 _ _ _ _ _
      | exact LeO.none _
      | refine LeO.ite ?_ ?_
      | refine LeO.bind ?_ (fun _ => ?_)
theorem num_Round.mono : ∀ a0 a1 a2 k, LeO (num_Round.f k a0 a1 a2) (num_Round.f (k + 1) a0 a1 a2) := by
  intro a0 a1 a2 k
  obtain ⟨ih0, ih1⟩ := num_Round.mono_l k
  unfold num_Round.f
  repeat' first
      | (with_reducible exact ih0 _ _ _ _)
      | (with_reducible exact ih1 _ _ _ _ _)
      | (with_reducible exact LeO.refl _)
      | (with_reducible exact LeO.none _)
      | (with_reducible refine LeO.ite ?_ ?_)
      | (with_reducible refine LeO.bind ?_ (fun _ => ?_))
      | exact ih0 _ _ _ _
      | exact ih1 _ _ _ _ _
      | exact LeO.none _
      | refine LeO.ite ?_ ?_
      | refine LeO.bind ?_ (fun _ => ?_)
set_option maxHeartbeats 8000000 in
set_option maxRecDepth 100000 in
theorem num_Round.calls (k : Nat) (a0 : Int) (a1 : Int) (a2 : Int) (r1 : Int) (r2 : Bool) (w : World) (h : num_Round.f k a0 a1 a2 = some (r1, r2)) :
    Calls Tryz.prog 139 #[.int .i64 a0, .int .i64 a1, .int .i64 a2] w fun e w' => e = .returned (.tuple #[.int .i64 r1, .bool r2]) ∧ Drawn0 w w' := by
  have hu145 := Tryz.underlying145
  have H : ((num_Good.f a0).bind fun t107 => (if t107 = true then (if a1 < (-8) then (num_Round.j0 k a0 a1 a2 true) else (if a1 > 4 then (num_Round.j0 k a0 a1 a2 true) else (if a2 < 0 then (num_Round.j0 k a0 a1 a2 true) else (num_Round.j0 k a0 a1 a2 (decide (a2 > 4)))))) else (num_Round.j0 k a0 a1 a2 true))) = some (r1, r2) := h
  clear h
  have HC4 := Aside0.mk H
  clear H
  go_enter Tryz.func139, Tryz.ntmps139
  go_upto_region 1 with (fail)
  go_cut [30] (fun v30 wc => ∃ (kq : Nat) (x30_3 : Bool), v30 = .bool x30_3 ∧ Aside0 (num_Round.j0 kq a0 a1 a2 x30_3 = some (r1, r2)) ∧ Aside0 (kq ≤ k) ∧ Drawn0 w wc)
  case first =>
    have H := HC4.out
    clear HC4
    replace H := Option.bind_eq_some_iff.mp H
    obtain ⟨t107, A50, H⟩ := H
    replace H : (if t107 = true then (if a1 < (-8) then (num_Round.j0 k a0 a1 a2 true) else (if a1 > 4 then (num_Round.j0 k a0 a1 a2 true) else (if a2 < 0 then (num_Round.j0 k a0 a1 a2 true) else (num_Round.j0 k a0 a1 a2 (decide (a2 > 4)))))) else (num_Round.j0 k a0 a1 a2 true)) = some (r1, r2) := H
    have A5 := Aside0.mk A50
    clear A50
    by_cases c6 : t107 = true
    · subst c6
      have H1 : (if a1 < (-8) then (num_Round.j0 k a0 a1 a2 true) else (if a1 > 4 then (num_Round.j0 k a0 a1 a2 true) else (if a2 < 0 then (num_Round.j0 k a0 a1 a2 true) else (num_Round.j0 k a0 a1 a2 (decide (a2 > 4)))))) = some (r1, r2) := by rw [if_pos rfl] at H; exact H
      clear H
      have H := H1
      clear H1
      by_cases c7 : a1 < (-8)
      · rw [if_pos c7] at H
        have c7b0 : decide (a1 < (-8)) = true := decide_eq_true c7
        clear c7
        (first | rw [c7b0] | (simp only [i64_w, i32_w]; rw [c7b0]) | skip)
        have H' := Aside0.mk H
        clear H
        go_wp2_with (first | ((with_reducible refine gate_callee (f := 116) rfl ?_); refine goesL_ (some 13) rfl rfl Tryz.func116 (by kernel_rfl) rfl #[.int .i64 a0] rfl (by (try simp only [List.map_toArray, List.map_cons, List.map_nil]); first | done | rfl | (simp only [List.length_drop, List.length_take]; rfl)) ?_; (with_reducible refine (num_Good.calls a0 true _ A5.out).mono ?_); rintro e w' ⟨rfl, ⟨nd, rfl⟩⟩; refine ⟨_, rfl, ?_⟩))
        go_meet
        case rel => exact ⟨_, (true), (by first | rfl | (simp; done) | (simp [*]; done) | (simp [Go.Proofs.YtcbknemdidehlaaGreatDoor.X.bne_nil]; done)), H', ⟨by first | omega | exact Nat.le_refl _⟩, by repeat (first | exact Drawn0.refl _ | apply Drawn0.step)⟩
      · rw [if_neg c7] at H
        have c7b0 : decide (a1 < (-8)) = false := decide_eq_false c7
        clear c7
        (first | rw [c7b0] | (simp only [i64_w, i32_w]; rw [c7b0]) | skip)
        by_cases c8 : a1 > 4
        · rw [if_pos c8] at H
          have c8b0 : decide (4 < a1) = true := decide_eq_true c8
          clear c8
          have H' := Aside0.mk H
          clear H
          go_wp2_with (first | ((with_reducible refine gate_callee (f := 116) rfl ?_); refine goesL_ (some 13) rfl rfl Tryz.func116 (by kernel_rfl) rfl #[.int .i64 a0] rfl (by (try simp only [List.map_toArray, List.map_cons, List.map_nil]); first | done | rfl | (simp only [List.length_drop, List.length_take]; rfl)) ?_; (with_reducible refine (num_Good.calls a0 true _ A5.out).mono ?_); rintro e w' ⟨rfl, ⟨nd, rfl⟩⟩; refine ⟨_, rfl, ?_⟩))
          go_meet
          case rel => exact ⟨_, (true), (by first | rfl | (simp; done) | (simp [*]; done) | (simp [Go.Proofs.YtcbknemdidehlaaGreatDoor.X.bne_nil]; done)), H', ⟨by first | omega | exact Nat.le_refl _⟩, by repeat (first | exact Drawn0.refl _ | apply Drawn0.step)⟩
        · rw [if_neg c8] at H
          have c8b0 : decide (4 < a1) = false := decide_eq_false c8
          clear c8
          by_cases c9 : a2 < 0
          · rw [if_pos c9] at H
            have c9b0 : decide (a2 < 0) = true := decide_eq_true c9
            clear c9
            have H' := Aside0.mk H
            clear H
            go_wp2_with (first | ((with_reducible refine gate_callee (f := 116) rfl ?_); refine goesL_ (some 13) rfl rfl Tryz.func116 (by kernel_rfl) rfl #[.int .i64 a0] rfl (by (try simp only [List.map_toArray, List.map_cons, List.map_nil]); first | done | rfl | (simp only [List.length_drop, List.length_take]; rfl)) ?_; (with_reducible refine (num_Good.calls a0 true _ A5.out).mono ?_); rintro e w' ⟨rfl, ⟨nd, rfl⟩⟩; refine ⟨_, rfl, ?_⟩))
            go_meet
            case rel => exact ⟨_, (true), (by first | rfl | (simp; done) | (simp [*]; done) | (simp [Go.Proofs.YtcbknemdidehlaaGreatDoor.X.bne_nil]; done)), H', ⟨by first | omega | exact Nat.le_refl _⟩, by repeat (first | exact Drawn0.refl _ | apply Drawn0.step)⟩
          · rw [if_neg c9] at H
            have c9b0 : decide (a2 < 0) = false := decide_eq_false c9
            clear c9
            have H' := Aside0.mk H
            clear H
            go_wp2_with (first | ((with_reducible refine gate_callee (f := 116) rfl ?_); refine goesL_ (some 13) rfl rfl Tryz.func116 (by kernel_rfl) rfl #[.int .i64 a0] rfl (by (try simp only [List.map_toArray, List.map_cons, List.map_nil]); first | done | rfl | (simp only [List.length_drop, List.length_take]; rfl)) ?_; (with_reducible refine (num_Good.calls a0 true _ A5.out).mono ?_); rintro e w' ⟨rfl, ⟨nd, rfl⟩⟩; refine ⟨_, rfl, ?_⟩))
            go_meet
            case rel => exact ⟨_, (decide (a2 > 4)), (by first | rfl | (simp; done) | (simp [*]; done) | (simp [Go.Proofs.YtcbknemdidehlaaGreatDoor.X.bne_nil]; done)), H', ⟨by first | omega | exact Nat.le_refl _⟩, by repeat (first | exact Drawn0.refl _ | apply Drawn0.step)⟩
    · replace c6 := Bool.eq_false_iff.mpr c6
      subst c6
      have H1 : (num_Round.j0 k a0 a1 a2 true) = some (r1, r2) := by rw [if_neg (show ¬ (false = true) by decide)] at H; exact H
      clear H
      have H := H1
      clear H1
      have H' := Aside0.mk H
      clear H
      go_wp2_with (first | ((with_reducible refine gate_callee (f := 116) rfl ?_); refine goesL_ (some 13) rfl rfl Tryz.func116 (by kernel_rfl) rfl #[.int .i64 a0] rfl (by (try simp only [List.map_toArray, List.map_cons, List.map_nil]); first | done | rfl | (simp only [List.length_drop, List.length_take]; rfl)) ?_; (with_reducible refine (num_Good.calls a0 false _ A5.out).mono ?_); rintro e w' ⟨rfl, ⟨nd, rfl⟩⟩; refine ⟨_, rfl, ?_⟩))
      go_meet
      case rel => exact ⟨_, (true), (by first | rfl | (simp; done) | (simp [*]; done) | (simp [Go.Proofs.YtcbknemdidehlaaGreatDoor.X.bne_nil]; done)), H', ⟨by first | omega | exact Nat.le_refl _⟩, by repeat (first | exact Drawn0.refl _ | apply Drawn0.step)⟩
  case rest =>
    clear HC4
    try clear c1
    try clear p2
    try clear c6
    try clear c7
    try clear c7b0
    try clear c8
    try clear c8b0
    try clear c9
    try clear c9b0
    obtain ⟨kq, x30_3, rfl, HA, HJ3, ⟨mc3, rfl⟩⟩ := hcut
    cases kq with
    | zero => exact absurd HA.out (by simp [num_Round.j0])
    | succ kj3 =>
      have H := HA.out
      clear HA
      simp only [num_Round.j0] at H
      by_cases c10 : x30_3 = true
      · subst c10
        have H1 : (some (0, false)) = some (r1, r2) := by rw [if_pos rfl] at H; exact H
        clear H
        have H := H1
        clear H1
        simp only [Option.some.injEq, Prod.mk.injEq] at H
        obtain ⟨rfl, rfl⟩ := H
        go_wp2
        go_ret2
        exact ⟨by first | rfl | (simp; done) | (simp [*]; done) | (simp [Go.Proofs.YtcbknemdidehlaaGreatDoor.X.bne_nil]; done), by repeat (first | exact Drawn0.refl _ | apply Drawn0.step)⟩
      · replace c10 := Bool.eq_false_iff.mpr c10
        subst c10
        have H1 : (num_Round.l0 kj3 a0 a2 1 (wrap64 (4 - a1)) 0) = some (r1, r2) := by rw [if_neg (show ¬ (false = true) by decide)] at H; exact H
        clear H
        have H := H1
        clear H1
        have H' := Aside0.mk H
        clear H
        go_wp2
        go_loopg [8, 33] kj3 (fun kq v8 v33 w' => ∃ (x8_2 : Int) (x33_2 : Int), v8 = .int .i64 x8_2 ∧ v33 = .int .i64 x33_2 ∧ Aside0 (num_Round.l0 kq a0 a2 x8_2 (wrap64 (4 - a1)) x33_2 = some (r1, r2)) ∧ Aside0 (kq ≤ kj3) ∧ Drawn0 w w')
        case atStart => exact ⟨(1), (0), (by first | rfl | (simp; done) | (simp [*]; done) | (simp [Go.Proofs.YtcbknemdidehlaaGreatDoor.X.bne_nil]; done)), (by first | rfl | (simp; done) | (simp [*]; done) | (simp [Go.Proofs.YtcbknemdidehlaaGreatDoor.X.bne_nil]; done)), H', ⟨Nat.le_refl _⟩, by repeat (first | exact Drawn0.refl _ | apply Drawn0.step)⟩
        case round =>
          clear H'
          try clear c1
          try clear p2
          try clear c3
          try clear c6
          try clear p6
          try clear c7
          try clear c7b0
          try clear c8
          try clear c8b0
          try clear c9
          try clear c9b0
          try clear c10
          try clear p2
          obtain ⟨x8_2, x33_2, rfl, rfl, HA, HK2, ⟨m2, rfl⟩⟩ := hrel
          cases gk with
          | zero => exact absurd HA.out (by simp [num_Round.l0])
          | succ k2 =>
            have H := HA.out
            clear HA
            simp only [num_Round.l0] at H
            by_cases c11 : x33_2 < (wrap64 (4 - a1))
            · rw [if_pos c11] at H
              have c11b0 : decide (x33_2 < (wrap64 (4 - a1))) = true := decide_eq_true c11
              clear c11
              have H' := Aside0.mk H
              clear H
              go_wp2
              go_roundg k2
              case measure => have := HJ3.out; have := HK2.out; omega
              case rel => exact ⟨(wrap64 (x8_2 * 10)), (wrap64 (x33_2 + 1)), (by first | rfl | (simp; done) | (simp [*]; done) | (simp [Go.Proofs.YtcbknemdidehlaaGreatDoor.X.bne_nil]; done)), (by first | rfl | (simp; done) | (simp [*]; done) | (simp [Go.Proofs.YtcbknemdidehlaaGreatDoor.X.bne_nil]; done)), H', ⟨by have := HJ3.out; have := HK2.out; omega⟩, by repeat (first | exact Drawn0.refl _ | apply Drawn0.step)⟩
            · rw [if_neg c11] at H
              have c11b0 : decide (x33_2 < (wrap64 (4 - a1))) = false := decide_eq_false c11
              clear c11
              replace H := Option.bind_eq_some_iff.mp H
              obtain ⟨t108, A120, H⟩ := H
              replace H : (if (wrap64 (a0 - (wrap64 (t108 * x8_2)))) = 0 then (some (a0, true)) else (if (wrap64 (2 * (wrap64 (a0 - (wrap64 (t108 * x8_2)))))) > x8_2 then (if 0 ≤ a2 then (if a2 < 5 then (if (rdOf false ([true, decide (a0 > 0), decide (a0 < 0), true, false] : List Bool) a2) = true then ((num_told.f (wrap64 ((wrap64 (a0 - (wrap64 (a0 - (wrap64 (t108 * x8_2)))))) + x8_2))).bind fun bt109 => (some (bt109.1, bt109.2))) else ((num_told.f (wrap64 (a0 - (wrap64 (a0 - (wrap64 (t108 * x8_2))))))).bind fun bt111 => (some (bt111.1, bt111.2)))) else (none)) else (none)) else (if (wrap64 (2 * (wrap64 (a0 - (wrap64 (t108 * x8_2)))))) = x8_2 then (if 0 ≤ a2 then (if a2 < 5 then (if (rdOf false ([decide (a0 > 0), decide (a0 > 0), decide (a0 < 0), true, false] : List Bool) a2) = true then ((num_told.f (wrap64 ((wrap64 (a0 - (wrap64 (a0 - (wrap64 (t108 * x8_2)))))) + x8_2))).bind fun bt113 => (some (bt113.1, bt113.2))) else ((num_told.f (wrap64 (a0 - (wrap64 (a0 - (wrap64 (t108 * x8_2))))))).bind fun bt115 => (some (bt115.1, bt115.2)))) else (none)) else (none)) else (if 0 ≤ a2 then (if a2 < 5 then (if (rdOf false ([false, decide (a0 > 0), decide (a0 < 0), true, false] : List Bool) a2) = true then ((num_told.f (wrap64 ((wrap64 (a0 - (wrap64 (a0 - (wrap64 (t108 * x8_2)))))) + x8_2))).bind fun bt117 => (some (bt117.1, bt117.2))) else ((num_told.f (wrap64 (a0 - (wrap64 (a0 - (wrap64 (t108 * x8_2))))))).bind fun bt119 => (some (bt119.1, bt119.2)))) else (none)) else (none))))) = some (r1, r2) := H
              have A12 := Aside0.mk A120
              clear A120
              by_cases c13 : (wrap64 (a0 - (wrap64 (t108 * x8_2)))) = 0
              · rw [if_pos c13] at H
                have c13b0 : ((wrap64 (a0 - (wrap64 (t108 * x8_2)))) == 0) = true := beq_iff_eq.mpr c13
                have c13b1 : ((wrap64 (a0 - (wrap64 (t108 * x8_2)))) != 0) = false := bne_eq_false_iff_eq.mpr c13
                clear c13
                simp only [Option.some.injEq, Prod.mk.injEq] at H
                obtain ⟨rfl, rfl⟩ := H
                go_wp2_with (first | ((with_reducible refine gate_callee (f := 165) rfl ?_); refine goesL_ (some 41) rfl rfl Tryz.func165 (by kernel_rfl) rfl #[.int .i64 a0, .int .i64 x8_2] rfl (by (try simp only [List.map_toArray, List.map_cons, List.map_nil]); first | done | rfl | (simp only [List.length_drop, List.length_take]; rfl)) ?_; (with_reducible refine (num_floor.calls a0 x8_2 t108 _ A12.out).mono ?_); rintro e w' ⟨rfl, ⟨nd, rfl⟩⟩; refine ⟨_, rfl, ?_⟩))
                go_ret2
                exact ⟨by first | rfl | (simp; done) | (simp [*]; done) | (simp [Go.Proofs.YtcbknemdidehlaaGreatDoor.X.bne_nil]; done), by repeat (first | exact Drawn0.refl _ | apply Drawn0.step)⟩
              · rw [if_neg c13] at H
                have c13b0 : ((wrap64 (a0 - (wrap64 (t108 * x8_2)))) == 0) = false := beq_eq_false_iff_ne.mpr c13
                have c13b1 : ((wrap64 (a0 - (wrap64 (t108 * x8_2)))) != 0) = true := bne_iff_ne.mpr c13
                by_cases c14 : (wrap64 (2 * (wrap64 (a0 - (wrap64 (t108 * x8_2)))))) > x8_2
                · rw [if_pos c14] at H
                  have c14b0 : decide (x8_2 < (wrap64 (2 * (wrap64 (a0 - (wrap64 (t108 * x8_2))))))) = true := decide_eq_true c14
                  clear c14
                  by_cases c15 : 0 ≤ a2
                  · rw [if_pos c15] at H
                    have c15b0 : decide (0 ≤ a2) = true := decide_eq_true c15
                    clear c15
                    by_cases c16 : a2 < 5
                    · rw [if_pos c16] at H
                      have c16b0 : decide (a2 < 5) = true := decide_eq_true c16
                      clear c16
                      obtain ⟨bq18, hbq18⟩ : ∃ b_ : Bool, b_ = ((rdOf false ([true, decide (a0 > 0), decide (a0 < 0), true, false] : List Bool) a2)) := ⟨_, rfl⟩
                      replace H : (if bq18 = true then ((num_told.f (wrap64 ((wrap64 (a0 - (wrap64 (a0 - (wrap64 (t108 * x8_2)))))) + x8_2))).bind fun bt109 => (some (bt109.1, bt109.2))) else ((num_told.f (wrap64 (a0 - (wrap64 (a0 - (wrap64 (t108 * x8_2))))))).bind fun bt111 => (some (bt111.1, bt111.2)))) = some (r1, r2) := by rw [← hbq18] at H; exact H
                      have Nbq18 := Aside0.mk hbq18
                      clear hbq18
                      by_cases c19 : bq18 = true
                      · subst c19
                        have H1 : ((num_told.f (wrap64 ((wrap64 (a0 - (wrap64 (a0 - (wrap64 (t108 * x8_2)))))) + x8_2))).bind fun bt109 => (some (bt109.1, bt109.2))) = some (r1, r2) := by rw [if_pos rfl] at H; exact H
                        clear H
                        have H := H1
                        clear H1
                        replace H := Option.bind_eq_some_iff.mp H
                        obtain ⟨⟨t109, t110⟩, A200, H⟩ := H
                        replace H : (some (t109, t110)) = some (r1, r2) := H
                        have A20 := Aside0.mk A200
                        clear A200
                        simp only [Option.some.injEq, Prod.mk.injEq] at H
                        obtain ⟨rfl, rfl⟩ := H
                        go_wp2_with (first | ((with_reducible refine gate_callee (f := 165) rfl ?_); refine goesL_ (some 41) rfl rfl Tryz.func165 (by kernel_rfl) rfl #[.int .i64 a0, .int .i64 x8_2] rfl (by (try simp only [List.map_toArray, List.map_cons, List.map_nil]); first | done | rfl | (simp only [List.length_drop, List.length_take]; rfl)) ?_; (with_reducible refine (num_floor.calls a0 x8_2 t108 _ A12.out).mono ?_); rintro e w' ⟨rfl, ⟨nd, rfl⟩⟩; refine ⟨_, rfl, ?_⟩; have p17 : 0 ≤ (a2 : Int) := of_decide_eq_true (by first | (with_reducible assumption) | assumption); have q17 : a2 < (5 : Int) := of_decide_eq_true (by first | (with_reducible assumption) | assumption); have hx17 : ∀ w_ : World, (Instr.index 145 (.agg #[.bool true, .bool (decide (a0 > 0)), .bool (decide (a0 < 0)), .bool true, .bool false]) (.int .i64 a2)).run Tryz.prog w_ = .ok (.bool (rdOf false ([true, decide (a0 > 0), decide (a0 < 0), true, false] : List Bool) a2)) w_ := fun w_ => Go.Proofs.YtcbknemdidehlaaGreatDoor.X.run_index_array 145 4 5 _ _ _ _ (by kernel_rfl) (by kernel_rfl) (by kernel_rfl) p17 q17 (Go.Proofs.YtcbknemdidehlaaGreatDoor.X.at_bools ([true, decide (a0 > 0), decide (a0 < 0), true, false] : List Bool) a2 q17 p17); (try rw [← Nbq18.out] at hx17); replace p17 := eq_true p17; replace q17 := eq_true q17) | ((with_reducible refine gate_callee (f := 156) rfl ?_); refine goesL_ (some 77) rfl rfl Tryz.func156 (by kernel_rfl) rfl #[.int .i64 (wrap64 ((wrap64 (a0 - (wrap64 (a0 - (wrap64 (t108 * x8_2)))))) + x8_2))] rfl (by (try simp only [List.map_toArray, List.map_cons, List.map_nil]); first | done | rfl | (simp only [List.length_drop, List.length_take]; rfl)) ?_; (with_reducible refine (num_told.calls (wrap64 ((wrap64 (a0 - (wrap64 (a0 - (wrap64 (t108 * x8_2)))))) + x8_2)) t109 t110 _ A20.out).mono ?_); rintro e w' ⟨rfl, ⟨nd, rfl⟩⟩; refine ⟨_, rfl, ?_⟩))
                        go_ret2
                        exact ⟨by first | rfl | (simp; done) | (simp [*]; done) | (simp [Go.Proofs.YtcbknemdidehlaaGreatDoor.X.bne_nil]; done), by repeat (first | exact Drawn0.refl _ | apply Drawn0.step)⟩
                      · replace c19 := Bool.eq_false_iff.mpr c19
                        subst c19
                        have H1 : ((num_told.f (wrap64 (a0 - (wrap64 (a0 - (wrap64 (t108 * x8_2))))))).bind fun bt111 => (some (bt111.1, bt111.2))) = some (r1, r2) := by rw [if_neg (show ¬ (false = true) by decide)] at H; exact H
                        clear H
                        have H := H1
                        clear H1
                        replace H := Option.bind_eq_some_iff.mp H
                        obtain ⟨⟨t111, t112⟩, A210, H⟩ := H
                        replace H : (some (t111, t112)) = some (r1, r2) := H
                        have A21 := Aside0.mk A210
                        clear A210
                        simp only [Option.some.injEq, Prod.mk.injEq] at H
                        obtain ⟨rfl, rfl⟩ := H
                        go_wp2_with (first | ((with_reducible refine gate_callee (f := 165) rfl ?_); refine goesL_ (some 41) rfl rfl Tryz.func165 (by kernel_rfl) rfl #[.int .i64 a0, .int .i64 x8_2] rfl (by (try simp only [List.map_toArray, List.map_cons, List.map_nil]); first | done | rfl | (simp only [List.length_drop, List.length_take]; rfl)) ?_; (with_reducible refine (num_floor.calls a0 x8_2 t108 _ A12.out).mono ?_); rintro e w' ⟨rfl, ⟨nd, rfl⟩⟩; refine ⟨_, rfl, ?_⟩; have p17 : 0 ≤ (a2 : Int) := of_decide_eq_true (by first | (with_reducible assumption) | assumption); have q17 : a2 < (5 : Int) := of_decide_eq_true (by first | (with_reducible assumption) | assumption); have hx17 : ∀ w_ : World, (Instr.index 145 (.agg #[.bool true, .bool (decide (a0 > 0)), .bool (decide (a0 < 0)), .bool true, .bool false]) (.int .i64 a2)).run Tryz.prog w_ = .ok (.bool (rdOf false ([true, decide (a0 > 0), decide (a0 < 0), true, false] : List Bool) a2)) w_ := fun w_ => Go.Proofs.YtcbknemdidehlaaGreatDoor.X.run_index_array 145 4 5 _ _ _ _ (by kernel_rfl) (by kernel_rfl) (by kernel_rfl) p17 q17 (Go.Proofs.YtcbknemdidehlaaGreatDoor.X.at_bools ([true, decide (a0 > 0), decide (a0 < 0), true, false] : List Bool) a2 q17 p17); (try rw [← Nbq18.out] at hx17); replace p17 := eq_true p17; replace q17 := eq_true q17) | ((with_reducible refine gate_callee (f := 156) rfl ?_); refine goesL_ (some 77) rfl rfl Tryz.func156 (by kernel_rfl) rfl #[.int .i64 (wrap64 (a0 - (wrap64 (a0 - (wrap64 (t108 * x8_2))))))] rfl (by (try simp only [List.map_toArray, List.map_cons, List.map_nil]); first | done | rfl | (simp only [List.length_drop, List.length_take]; rfl)) ?_; (with_reducible refine (num_told.calls (wrap64 (a0 - (wrap64 (a0 - (wrap64 (t108 * x8_2)))))) t111 t112 _ A21.out).mono ?_); rintro e w' ⟨rfl, ⟨nd, rfl⟩⟩; refine ⟨_, rfl, ?_⟩))
                        go_ret2
                        exact ⟨by first | rfl | (simp; done) | (simp [*]; done) | (simp [Go.Proofs.YtcbknemdidehlaaGreatDoor.X.bne_nil]; done), by repeat (first | exact Drawn0.refl _ | apply Drawn0.step)⟩
                    · rw [if_neg c16] at H
                      exact absurd H (by simp)
                  · rw [if_neg c15] at H
                    exact absurd H (by simp)
                · rw [if_neg c14] at H
                  have c14b0 : decide (x8_2 < (wrap64 (2 * (wrap64 (a0 - (wrap64 (t108 * x8_2))))))) = false := decide_eq_false c14
                  clear c14
                  by_cases c22 : (wrap64 (2 * (wrap64 (a0 - (wrap64 (t108 * x8_2)))))) = x8_2
                  · rw [if_pos c22] at H
                    have c22b0 : ((wrap64 (2 * (wrap64 (a0 - (wrap64 (t108 * x8_2)))))) == x8_2) = true := beq_iff_eq.mpr c22
                    have c22b1 : ((wrap64 (2 * (wrap64 (a0 - (wrap64 (t108 * x8_2)))))) != x8_2) = false := bne_eq_false_iff_eq.mpr c22
                    clear c22
                    by_cases c23 : 0 ≤ a2
                    · rw [if_pos c23] at H
                      have c23b0 : decide (0 ≤ a2) = true := decide_eq_true c23
                      clear c23
                      by_cases c24 : a2 < 5
                      · rw [if_pos c24] at H
                        have c24b0 : decide (a2 < 5) = true := decide_eq_true c24
                        clear c24
                        obtain ⟨bq26, hbq26⟩ : ∃ b_ : Bool, b_ = ((rdOf false ([decide (a0 > 0), decide (a0 > 0), decide (a0 < 0), true, false] : List Bool) a2)) := ⟨_, rfl⟩
                        replace H : (if bq26 = true then ((num_told.f (wrap64 ((wrap64 (a0 - (wrap64 (a0 - (wrap64 (t108 * x8_2)))))) + x8_2))).bind fun bt113 => (some (bt113.1, bt113.2))) else ((num_told.f (wrap64 (a0 - (wrap64 (a0 - (wrap64 (t108 * x8_2))))))).bind fun bt115 => (some (bt115.1, bt115.2)))) = some (r1, r2) := by rw [← hbq26] at H; exact H
                        have Nbq26 := Aside0.mk hbq26
                        clear hbq26
                        by_cases c27 : bq26 = true
                        · subst c27
                          have H1 : ((num_told.f (wrap64 ((wrap64 (a0 - (wrap64 (a0 - (wrap64 (t108 * x8_2)))))) + x8_2))).bind fun bt113 => (some (bt113.1, bt113.2))) = some (r1, r2) := by rw [if_pos rfl] at H; exact H
                          clear H
                          have H := H1
                          clear H1
                          replace H := Option.bind_eq_some_iff.mp H
                          obtain ⟨⟨t113, t114⟩, A280, H⟩ := H
                          replace H : (some (t113, t114)) = some (r1, r2) := H
                          have A28 := Aside0.mk A280
                          clear A280
                          simp only [Option.some.injEq, Prod.mk.injEq] at H
                          obtain ⟨rfl, rfl⟩ := H
                          go_wp2_with (first | ((with_reducible refine gate_callee (f := 165) rfl ?_); refine goesL_ (some 41) rfl rfl Tryz.func165 (by kernel_rfl) rfl #[.int .i64 a0, .int .i64 x8_2] rfl (by (try simp only [List.map_toArray, List.map_cons, List.map_nil]); first | done | rfl | (simp only [List.length_drop, List.length_take]; rfl)) ?_; (with_reducible refine (num_floor.calls a0 x8_2 t108 _ A12.out).mono ?_); rintro e w' ⟨rfl, ⟨nd, rfl⟩⟩; refine ⟨_, rfl, ?_⟩; have p25 : 0 ≤ (a2 : Int) := of_decide_eq_true (by first | (with_reducible assumption) | assumption); have q25 : a2 < (5 : Int) := of_decide_eq_true (by first | (with_reducible assumption) | assumption); have hx25 : ∀ w_ : World, (Instr.index 145 (.agg #[.bool (decide (a0 > 0)), .bool (decide (a0 > 0)), .bool (decide (a0 < 0)), .bool true, .bool false]) (.int .i64 a2)).run Tryz.prog w_ = .ok (.bool (rdOf false ([decide (a0 > 0), decide (a0 > 0), decide (a0 < 0), true, false] : List Bool) a2)) w_ := fun w_ => Go.Proofs.YtcbknemdidehlaaGreatDoor.X.run_index_array 145 4 5 _ _ _ _ (by kernel_rfl) (by kernel_rfl) (by kernel_rfl) p25 q25 (Go.Proofs.YtcbknemdidehlaaGreatDoor.X.at_bools ([decide (a0 > 0), decide (a0 > 0), decide (a0 < 0), true, false] : List Bool) a2 q25 p25); (try rw [← Nbq26.out] at hx25); replace p25 := eq_true p25; replace q25 := eq_true q25) | ((with_reducible refine gate_callee (f := 156) rfl ?_); refine goesL_ (some 77) rfl rfl Tryz.func156 (by kernel_rfl) rfl #[.int .i64 (wrap64 ((wrap64 (a0 - (wrap64 (a0 - (wrap64 (t108 * x8_2)))))) + x8_2))] rfl (by (try simp only [List.map_toArray, List.map_cons, List.map_nil]); first | done | rfl | (simp only [List.length_drop, List.length_take]; rfl)) ?_; (with_reducible refine (num_told.calls (wrap64 ((wrap64 (a0 - (wrap64 (a0 - (wrap64 (t108 * x8_2)))))) + x8_2)) t113 t114 _ A28.out).mono ?_); rintro e w' ⟨rfl, ⟨nd, rfl⟩⟩; refine ⟨_, rfl, ?_⟩))
                          go_ret2
                          exact ⟨by first | rfl | (simp; done) | (simp [*]; done) | (simp [Go.Proofs.YtcbknemdidehlaaGreatDoor.X.bne_nil]; done), by repeat (first | exact Drawn0.refl _ | apply Drawn0.step)⟩
                        · replace c27 := Bool.eq_false_iff.mpr c27
                          subst c27
                          have H1 : ((num_told.f (wrap64 (a0 - (wrap64 (a0 - (wrap64 (t108 * x8_2))))))).bind fun bt115 => (some (bt115.1, bt115.2))) = some (r1, r2) := by rw [if_neg (show ¬ (false = true) by decide)] at H; exact H
                          clear H
                          have H := H1
                          clear H1
                          replace H := Option.bind_eq_some_iff.mp H
                          obtain ⟨⟨t115, t116⟩, A290, H⟩ := H
                          replace H : (some (t115, t116)) = some (r1, r2) := H
                          have A29 := Aside0.mk A290
                          clear A290
                          simp only [Option.some.injEq, Prod.mk.injEq] at H
                          obtain ⟨rfl, rfl⟩ := H
                          go_wp2_with (first | ((with_reducible refine gate_callee (f := 165) rfl ?_); refine goesL_ (some 41) rfl rfl Tryz.func165 (by kernel_rfl) rfl #[.int .i64 a0, .int .i64 x8_2] rfl (by (try simp only [List.map_toArray, List.map_cons, List.map_nil]); first | done | rfl | (simp only [List.length_drop, List.length_take]; rfl)) ?_; (with_reducible refine (num_floor.calls a0 x8_2 t108 _ A12.out).mono ?_); rintro e w' ⟨rfl, ⟨nd, rfl⟩⟩; refine ⟨_, rfl, ?_⟩; have p25 : 0 ≤ (a2 : Int) := of_decide_eq_true (by first | (with_reducible assumption) | assumption); have q25 : a2 < (5 : Int) := of_decide_eq_true (by first | (with_reducible assumption) | assumption); have hx25 : ∀ w_ : World, (Instr.index 145 (.agg #[.bool (decide (a0 > 0)), .bool (decide (a0 > 0)), .bool (decide (a0 < 0)), .bool true, .bool false]) (.int .i64 a2)).run Tryz.prog w_ = .ok (.bool (rdOf false ([decide (a0 > 0), decide (a0 > 0), decide (a0 < 0), true, false] : List Bool) a2)) w_ := fun w_ => Go.Proofs.YtcbknemdidehlaaGreatDoor.X.run_index_array 145 4 5 _ _ _ _ (by kernel_rfl) (by kernel_rfl) (by kernel_rfl) p25 q25 (Go.Proofs.YtcbknemdidehlaaGreatDoor.X.at_bools ([decide (a0 > 0), decide (a0 > 0), decide (a0 < 0), true, false] : List Bool) a2 q25 p25); (try rw [← Nbq26.out] at hx25); replace p25 := eq_true p25; replace q25 := eq_true q25) | ((with_reducible refine gate_callee (f := 156) rfl ?_); refine goesL_ (some 77) rfl rfl Tryz.func156 (by kernel_rfl) rfl #[.int .i64 (wrap64 (a0 - (wrap64 (a0 - (wrap64 (t108 * x8_2))))))] rfl (by (try simp only [List.map_toArray, List.map_cons, List.map_nil]); first | done | rfl | (simp only [List.length_drop, List.length_take]; rfl)) ?_; (with_reducible refine (num_told.calls (wrap64 (a0 - (wrap64 (a0 - (wrap64 (t108 * x8_2)))))) t115 t116 _ A29.out).mono ?_); rintro e w' ⟨rfl, ⟨nd, rfl⟩⟩; refine ⟨_, rfl, ?_⟩))
                          go_ret2
                          exact ⟨by first | rfl | (simp; done) | (simp [*]; done) | (simp [Go.Proofs.YtcbknemdidehlaaGreatDoor.X.bne_nil]; done), by repeat (first | exact Drawn0.refl _ | apply Drawn0.step)⟩
                      · rw [if_neg c24] at H
                        exact absurd H (by simp)
                    · rw [if_neg c23] at H
                      exact absurd H (by simp)
                  · rw [if_neg c22] at H
                    have c22b0 : ((wrap64 (2 * (wrap64 (a0 - (wrap64 (t108 * x8_2)))))) == x8_2) = false := beq_eq_false_iff_ne.mpr c22
                    have c22b1 : ((wrap64 (2 * (wrap64 (a0 - (wrap64 (t108 * x8_2)))))) != x8_2) = true := bne_iff_ne.mpr c22
                    by_cases c30 : 0 ≤ a2
                    · rw [if_pos c30] at H
                      have c30b0 : decide (0 ≤ a2) = true := decide_eq_true c30
                      clear c30
                      by_cases c31 : a2 < 5
                      · rw [if_pos c31] at H
                        have c31b0 : decide (a2 < 5) = true := decide_eq_true c31
                        clear c31
                        obtain ⟨bq33, hbq33⟩ : ∃ b_ : Bool, b_ = ((rdOf false ([false, decide (a0 > 0), decide (a0 < 0), true, false] : List Bool) a2)) := ⟨_, rfl⟩
                        replace H : (if bq33 = true then ((num_told.f (wrap64 ((wrap64 (a0 - (wrap64 (a0 - (wrap64 (t108 * x8_2)))))) + x8_2))).bind fun bt117 => (some (bt117.1, bt117.2))) else ((num_told.f (wrap64 (a0 - (wrap64 (a0 - (wrap64 (t108 * x8_2))))))).bind fun bt119 => (some (bt119.1, bt119.2)))) = some (r1, r2) := by rw [← hbq33] at H; exact H
                        have Nbq33 := Aside0.mk hbq33
                        clear hbq33
                        by_cases c34 : bq33 = true
                        · subst c34
                          have H1 : ((num_told.f (wrap64 ((wrap64 (a0 - (wrap64 (a0 - (wrap64 (t108 * x8_2)))))) + x8_2))).bind fun bt117 => (some (bt117.1, bt117.2))) = some (r1, r2) := by rw [if_pos rfl] at H; exact H
                          clear H
                          have H := H1
                          clear H1
                          replace H := Option.bind_eq_some_iff.mp H
                          obtain ⟨⟨t117, t118⟩, A350, H⟩ := H
                          replace H : (some (t117, t118)) = some (r1, r2) := H
                          have A35 := Aside0.mk A350
                          clear A350
                          simp only [Option.some.injEq, Prod.mk.injEq] at H
                          obtain ⟨rfl, rfl⟩ := H
                          go_wp2_with (first | ((with_reducible refine gate_callee (f := 165) rfl ?_); refine goesL_ (some 41) rfl rfl Tryz.func165 (by kernel_rfl) rfl #[.int .i64 a0, .int .i64 x8_2] rfl (by (try simp only [List.map_toArray, List.map_cons, List.map_nil]); first | done | rfl | (simp only [List.length_drop, List.length_take]; rfl)) ?_; (with_reducible refine (num_floor.calls a0 x8_2 t108 _ A12.out).mono ?_); rintro e w' ⟨rfl, ⟨nd, rfl⟩⟩; refine ⟨_, rfl, ?_⟩; have p32 : 0 ≤ (a2 : Int) := of_decide_eq_true (by first | (with_reducible assumption) | assumption); have q32 : a2 < (5 : Int) := of_decide_eq_true (by first | (with_reducible assumption) | assumption); have hx32 : ∀ w_ : World, (Instr.index 145 (.agg #[.bool false, .bool (decide (a0 > 0)), .bool (decide (a0 < 0)), .bool true, .bool false]) (.int .i64 a2)).run Tryz.prog w_ = .ok (.bool (rdOf false ([false, decide (a0 > 0), decide (a0 < 0), true, false] : List Bool) a2)) w_ := fun w_ => Go.Proofs.YtcbknemdidehlaaGreatDoor.X.run_index_array 145 4 5 _ _ _ _ (by kernel_rfl) (by kernel_rfl) (by kernel_rfl) p32 q32 (Go.Proofs.YtcbknemdidehlaaGreatDoor.X.at_bools ([false, decide (a0 > 0), decide (a0 < 0), true, false] : List Bool) a2 q32 p32); (try rw [← Nbq33.out] at hx32); replace p32 := eq_true p32; replace q32 := eq_true q32) | ((with_reducible refine gate_callee (f := 156) rfl ?_); refine goesL_ (some 77) rfl rfl Tryz.func156 (by kernel_rfl) rfl #[.int .i64 (wrap64 ((wrap64 (a0 - (wrap64 (a0 - (wrap64 (t108 * x8_2)))))) + x8_2))] rfl (by (try simp only [List.map_toArray, List.map_cons, List.map_nil]); first | done | rfl | (simp only [List.length_drop, List.length_take]; rfl)) ?_; (with_reducible refine (num_told.calls (wrap64 ((wrap64 (a0 - (wrap64 (a0 - (wrap64 (t108 * x8_2)))))) + x8_2)) t117 t118 _ A35.out).mono ?_); rintro e w' ⟨rfl, ⟨nd, rfl⟩⟩; refine ⟨_, rfl, ?_⟩))
                          go_ret2
                          exact ⟨by first | rfl | (simp; done) | (simp [*]; done) | (simp [Go.Proofs.YtcbknemdidehlaaGreatDoor.X.bne_nil]; done), by repeat (first | exact Drawn0.refl _ | apply Drawn0.step)⟩
                        · replace c34 := Bool.eq_false_iff.mpr c34
                          subst c34
                          have H1 : ((num_told.f (wrap64 (a0 - (wrap64 (a0 - (wrap64 (t108 * x8_2))))))).bind fun bt119 => (some (bt119.1, bt119.2))) = some (r1, r2) := by rw [if_neg (show ¬ (false = true) by decide)] at H; exact H
                          clear H
                          have H := H1
                          clear H1
                          replace H := Option.bind_eq_some_iff.mp H
                          obtain ⟨⟨t119, t120⟩, A360, H⟩ := H
                          replace H : (some (t119, t120)) = some (r1, r2) := H
                          have A36 := Aside0.mk A360
                          clear A360
                          simp only [Option.some.injEq, Prod.mk.injEq] at H
                          obtain ⟨rfl, rfl⟩ := H
                          go_wp2_with (first | ((with_reducible refine gate_callee (f := 165) rfl ?_); refine goesL_ (some 41) rfl rfl Tryz.func165 (by kernel_rfl) rfl #[.int .i64 a0, .int .i64 x8_2] rfl (by (try simp only [List.map_toArray, List.map_cons, List.map_nil]); first | done | rfl | (simp only [List.length_drop, List.length_take]; rfl)) ?_; (with_reducible refine (num_floor.calls a0 x8_2 t108 _ A12.out).mono ?_); rintro e w' ⟨rfl, ⟨nd, rfl⟩⟩; refine ⟨_, rfl, ?_⟩; have p32 : 0 ≤ (a2 : Int) := of_decide_eq_true (by first | (with_reducible assumption) | assumption); have q32 : a2 < (5 : Int) := of_decide_eq_true (by first | (with_reducible assumption) | assumption); have hx32 : ∀ w_ : World, (Instr.index 145 (.agg #[.bool false, .bool (decide (a0 > 0)), .bool (decide (a0 < 0)), .bool true, .bool false]) (.int .i64 a2)).run Tryz.prog w_ = .ok (.bool (rdOf false ([false, decide (a0 > 0), decide (a0 < 0), true, false] : List Bool) a2)) w_ := fun w_ => Go.Proofs.YtcbknemdidehlaaGreatDoor.X.run_index_array 145 4 5 _ _ _ _ (by kernel_rfl) (by kernel_rfl) (by kernel_rfl) p32 q32 (Go.Proofs.YtcbknemdidehlaaGreatDoor.X.at_bools ([false, decide (a0 > 0), decide (a0 < 0), true, false] : List Bool) a2 q32 p32); (try rw [← Nbq33.out] at hx32); replace p32 := eq_true p32; replace q32 := eq_true q32) | ((with_reducible refine gate_callee (f := 156) rfl ?_); refine goesL_ (some 77) rfl rfl Tryz.func156 (by kernel_rfl) rfl #[.int .i64 (wrap64 (a0 - (wrap64 (a0 - (wrap64 (t108 * x8_2))))))] rfl (by (try simp only [List.map_toArray, List.map_cons, List.map_nil]); first | done | rfl | (simp only [List.length_drop, List.length_take]; rfl)) ?_; (with_reducible refine (num_told.calls (wrap64 (a0 - (wrap64 (a0 - (wrap64 (t108 * x8_2)))))) t119 t120 _ A36.out).mono ?_); rintro e w' ⟨rfl, ⟨nd, rfl⟩⟩; refine ⟨_, rfl, ?_⟩))
                          go_ret2
                          exact ⟨by first | rfl | (simp; done) | (simp [*]; done) | (simp [Go.Proofs.YtcbknemdidehlaaGreatDoor.X.bne_nil]; done), by repeat (first | exact Drawn0.refl _ | apply Drawn0.step)⟩
                      · rw [if_neg c31] at H
                        exact absurd H (by simp)
                    · rw [if_neg c30] at H
                      exact absurd H (by simp)

/-! ### utf8_RuneLen: function 101 -/
def utf8_RuneLen.j0 : Nat → Int → Bool → Option (Int)
  | 0, _, _ => none
  | k + 1, x0, x12 => if x12 = true then (some (-1)) else (if x0 ≤ 65535 then (some 3) else (if x0 ≤ 1114111 then (some 4) else (some (-1))))
def utf8_RuneLen.f (k : Nat) (a0 : Int) : Option (Int) := if a0 < 0 then (some (-1)) else (if a0 ≤ 127 then (some 1) else (if a0 ≤ 2047 then (some 2) else (if 55296 ≤ a0 then (utf8_RuneLen.j0 k a0 (decide (a0 ≤ 57343))) else (utf8_RuneLen.j0 k a0 false))))
theorem utf8_RuneLen.mono_l : ∀ k, (∀ y0 y1, LeO (utf8_RuneLen.j0 k y0 y1) (utf8_RuneLen.j0 (k + 1) y0 y1))
  | 0 => fun _ _ r h => by simp [utf8_RuneLen.j0] at h
  | k + 1 => by
    have ih0 := utf8_RuneLen.mono_l k
    · intro y0 y1
      unfold utf8_RuneLen.j0
      repeat' first
      | (with_reducible exact ih0 _ _)
      | (with_reducible exact LeO.refl _)
      | (with_reducible exact LeO.none _)
      | (with_reducible refine LeO.ite ?_ ?_)
      | (with_reducible refine LeO.bind ?_ (fun _ => ?_))
      | exact ih0 _ _
      | exact LeO.none _
      | refine LeO.ite ?_ ?_
      | refine LeO.bind ?_ (fun _ => ?_)
theorem utf8_RuneLen.mono : ∀ a0 k, LeO (utf8_RuneLen.f k a0) (utf8_RuneLen.f (k + 1) a0) := by
  intro a0 k
  have ih0 := utf8_RuneLen.mono_l k
  unfold utf8_RuneLen.f
  repeat' first
      | (with_reducible exact ih0 _ _)
      | (with_reducible exact LeO.refl _)
      | (with_reducible exact LeO.none _)
      | (with_reducible refine LeO.ite ?_ ?_)
      | (with_reducible refine LeO.bind ?_ (fun _ => ?_))
      | exact ih0 _ _
      | exact LeO.none _
      | refine LeO.ite ?_ ?_
      | refine LeO.bind ?_ (fun _ => ?_)
set_option maxHeartbeats 8000000 in
set_option maxRecDepth 100000 in
theorem utf8_RuneLen.calls (k : Nat) (a0 : Int) (r : Int) (w : World) (h : utf8_RuneLen.f k a0 = some r) :
    Calls Tryz.prog 101 #[.int .i32 a0] w fun e w' => e = .returned (.int .i64 r) ∧ Drawn0 w w' := by
  have H : (if a0 < 0 then (some (-1)) else (if a0 ≤ 127 then (some 1) else (if a0 ≤ 2047 then (some 2) else (if 55296 ≤ a0 then (utf8_RuneLen.j0 k a0 (decide (a0 ≤ 57343))) else (utf8_RuneLen.j0 k a0 false))))) = some r := h
  clear h
  by_cases c2 : a0 < 0
  · rw [if_pos c2] at H
    have c2b0 : decide (a0 < 0) = true := decide_eq_true c2
    clear c2
    obtain rfl := Option.some.inj H
    go_enter Tryz.func101, Tryz.ntmps101
    go_wp2
    go_ret
    exact ⟨by first | rfl | (simp; done) | (simp [*]; done) | (simp [Go.Proofs.YtcbknemdidehlaaGreatDoor.X.bne_nil]; done), by repeat (first | exact Drawn0.refl _ | apply Drawn0.step)⟩
  · rw [if_neg c2] at H
    have c2b0 : decide (a0 < 0) = false := decide_eq_false c2
    clear c2
    by_cases c3 : a0 ≤ 127
    · rw [if_pos c3] at H
      have c3b0 : decide (a0 ≤ 127) = true := decide_eq_true c3
      clear c3
      obtain rfl := Option.some.inj H
      go_enter Tryz.func101, Tryz.ntmps101
      go_wp2
      go_ret
      exact ⟨by first | rfl | (simp; done) | (simp [*]; done) | (simp [Go.Proofs.YtcbknemdidehlaaGreatDoor.X.bne_nil]; done), by repeat (first | exact Drawn0.refl _ | apply Drawn0.step)⟩
    · rw [if_neg c3] at H
      have c3b0 : decide (a0 ≤ 127) = false := decide_eq_false c3
      clear c3
      by_cases c4 : a0 ≤ 2047
      · rw [if_pos c4] at H
        have c4b0 : decide (a0 ≤ 2047) = true := decide_eq_true c4
        clear c4
        obtain rfl := Option.some.inj H
        go_enter Tryz.func101, Tryz.ntmps101
        go_wp2
        go_ret
        exact ⟨by first | rfl | (simp; done) | (simp [*]; done) | (simp [Go.Proofs.YtcbknemdidehlaaGreatDoor.X.bne_nil]; done), by repeat (first | exact Drawn0.refl _ | apply Drawn0.step)⟩
      · rw [if_neg c4] at H
        have c4b0 : decide (a0 ≤ 2047) = false := decide_eq_false c4
        clear c4
        have HC5 := Aside0.mk H
        clear H
        go_enter Tryz.func101, Tryz.ntmps101
        go_upto_region 7 with (fail)
        go_cut [12] (fun v12 wc => ∃ (kq : Nat) (x12_4 : Bool), v12 = .bool x12_4 ∧ Aside0 (utf8_RuneLen.j0 kq a0 x12_4 = some r) ∧ Aside0 (kq ≤ k) ∧ Drawn0 w wc)
        case first =>
          have H := HC5.out
          clear HC5
          by_cases c6 : 55296 ≤ a0
          · rw [if_pos c6] at H
            have c6b0 : decide (55296 ≤ a0) = true := decide_eq_true c6
            clear c6
            (first | rw [c6b0] | (simp only [i64_w, i32_w]; rw [c6b0]) | skip)
            have H' := Aside0.mk H
            clear H
            go_wp2
            go_meet
            case rel => exact ⟨_, (decide (a0 ≤ 57343)), (by first | rfl | (simp; done) | (simp [*]; done) | (simp [Go.Proofs.YtcbknemdidehlaaGreatDoor.X.bne_nil]; done)), H', ⟨by first | omega | exact Nat.le_refl _⟩, by repeat (first | exact Drawn0.refl _ | apply Drawn0.step)⟩
          · rw [if_neg c6] at H
            have c6b0 : decide (55296 ≤ a0) = false := decide_eq_false c6
            clear c6
            (first | rw [c6b0] | (simp only [i64_w, i32_w]; rw [c6b0]) | skip)
            have H' := Aside0.mk H
            clear H
            go_wp2
            go_meet
            case rel => exact ⟨_, (false), (by first | rfl | (simp; done) | (simp [*]; done) | (simp [Go.Proofs.YtcbknemdidehlaaGreatDoor.X.bne_nil]; done)), H', ⟨by first | omega | exact Nat.le_refl _⟩, by repeat (first | exact Drawn0.refl _ | apply Drawn0.step)⟩
        case rest =>
          clear HC5
          try clear c1
          try clear c2
          try clear c2b0
          try clear p2
          try clear c3
          try clear c3b0
          try clear c4
          try clear c4b0
          try clear c6
          try clear c6b0
          obtain ⟨kq, x12_4, rfl, HA, HJ4, ⟨mc4, rfl⟩⟩ := hcut
          cases kq with
          | zero => exact absurd HA.out (by simp [utf8_RuneLen.j0])
          | succ kj4 =>
            have H := HA.out
            clear HA
            simp only [utf8_RuneLen.j0] at H
            by_cases c7 : x12_4 = true
            · subst c7
              have H1 : (some (-1)) = some r := by rw [if_pos rfl] at H; exact H
              clear H
              have H := H1
              clear H1
              obtain rfl := Option.some.inj H
              go_wp2
              go_ret
              exact ⟨by first | rfl | (simp; done) | (simp [*]; done) | (simp [Go.Proofs.YtcbknemdidehlaaGreatDoor.X.bne_nil]; done), by repeat (first | exact Drawn0.refl _ | apply Drawn0.step)⟩
            · replace c7 := Bool.eq_false_iff.mpr c7
              subst c7
              have H1 : (if a0 ≤ 65535 then (some 3) else (if a0 ≤ 1114111 then (some 4) else (some (-1)))) = some r := by rw [if_neg (show ¬ (false = true) by decide)] at H; exact H
              clear H
              have H := H1
              clear H1
              by_cases c8 : a0 ≤ 65535
              · rw [if_pos c8] at H
                have c8b0 : decide (a0 ≤ 65535) = true := decide_eq_true c8
                clear c8
                obtain rfl := Option.some.inj H
                go_wp2
                go_ret
                exact ⟨by first | rfl | (simp; done) | (simp [*]; done) | (simp [Go.Proofs.YtcbknemdidehlaaGreatDoor.X.bne_nil]; done), by repeat (first | exact Drawn0.refl _ | apply Drawn0.step)⟩
              · rw [if_neg c8] at H
                have c8b0 : decide (a0 ≤ 65535) = false := decide_eq_false c8
                clear c8
                by_cases c9 : a0 ≤ 1114111
                · rw [if_pos c9] at H
                  have c9b0 : decide (a0 ≤ 1114111) = true := decide_eq_true c9
                  clear c9
                  obtain rfl := Option.some.inj H
                  go_wp2
                  go_ret
                  exact ⟨by first | rfl | (simp; done) | (simp [*]; done) | (simp [Go.Proofs.YtcbknemdidehlaaGreatDoor.X.bne_nil]; done), by repeat (first | exact Drawn0.refl _ | apply Drawn0.step)⟩
                · rw [if_neg c9] at H
                  have c9b0 : decide (a0 ≤ 1114111) = false := decide_eq_false c9
                  clear c9
                  obtain rfl := Option.some.inj H
                  go_wp2
                  go_ret
                  exact ⟨by first | rfl | (simp; done) | (simp [*]; done) | (simp [Go.Proofs.YtcbknemdidehlaaGreatDoor.X.bne_nil]; done), by repeat (first | exact Drawn0.refl _ | apply Drawn0.step)⟩

/-! ### strings_HasPrefix: function 102 -/
def strings_HasPrefix.f (a0 : ByteArray) (a1 : ByteArray) : Option (Bool) := (stringslite_HasPrefix.f a0 a1).bind fun t121 => (some t121)
set_option maxHeartbeats 8000000 in
set_option maxRecDepth 100000 in
theorem strings_HasPrefix.calls (a0 : ByteArray) (a1 : ByteArray) (r : Bool) (w : World) (h : strings_HasPrefix.f a0 a1 = some r) :
    Calls Tryz.prog 102 #[.string a0, .string a1] w fun e w' => e = .returned (.bool r) ∧ Drawn0 w w' := by
  have H : ((stringslite_HasPrefix.f a0 a1).bind fun t121 => (some t121)) = some r := h
  clear h
  replace H := Option.bind_eq_some_iff.mp H
  obtain ⟨t121, A30, H⟩ := H
  replace H : (some t121) = some r := H
  have A3 := Aside0.mk A30
  clear A30
  obtain rfl := Option.some.inj H
  go_enter Tryz.func102, Tryz.ntmps102
  go_wp2_with (first | ((with_reducible refine gate_callee (f := 149) rfl ?_); refine goesL_ (some 7) rfl rfl Tryz.func149 (by kernel_rfl) rfl #[.string a0, .string a1] rfl (by (try simp only [List.map_toArray, List.map_cons, List.map_nil]); first | done | rfl | (simp only [List.length_drop, List.length_take]; rfl)) ?_; (with_reducible refine (stringslite_HasPrefix.calls a0 a1 t121 _ A3.out).mono ?_); rintro e w' ⟨rfl, ⟨nd, rfl⟩⟩; refine ⟨_, rfl, ?_⟩))
  go_ret
  exact ⟨by first | rfl | (simp; done) | (simp [*]; done) | (simp [Go.Proofs.YtcbknemdidehlaaGreatDoor.X.bne_nil]; done), by repeat (first | exact Drawn0.refl _ | apply Drawn0.step)⟩

/-! ### value_Chars: function 47 -/
def value_Chars.l0 : Nat → ByteArray → Nat → List ByteArray → Option (List ByteArray)
  | 0, _, _, _ => none
  | k + 1, s, pos, l => if pos < s.size then (if l.length < 8796093022208 then (value_Chars.l0 k s (pos + (Utf8.decode s pos).2) (l ++ [s.extract pos (pos + (Utf8.decode s pos).2)])) else none) else some l
def value_Chars.f (k : Nat) (a0 : ByteArray) : Option (List ByteArray) := if a0.size ≤ 140737488351232 then value_Chars.l0 k a0 0 [] else none
theorem value_Chars.mono_l : ∀ k, (∀ y0 y1 y2, LeO (value_Chars.l0 k y0 y1 y2) (value_Chars.l0 (k + 1) y0 y1 y2))
  | 0 => fun _ _ _ r h => by simp [value_Chars.l0] at h
  | k + 1 => by
    have ih0 := value_Chars.mono_l k
    · intro y0 y1 y2
      unfold value_Chars.l0
      repeat' first
      | (with_reducible exact ih0 _ _ _)
      | (with_reducible exact LeO.refl _)
      | (with_reducible exact LeO.none _)
      | (with_reducible refine LeO.ite ?_ ?_)
theorem value_Chars.mono : ∀ a0 k, LeO (value_Chars.f k a0) (value_Chars.f (k + 1) a0) := by
  intro a0 k
  have ih0 := value_Chars.mono_l k
  unfold value_Chars.f
  repeat' first
      | (with_reducible exact ih0 _ _ _)
      | (with_reducible exact LeO.refl _)
      | (with_reducible exact LeO.none _)
      | (with_reducible refine LeO.ite ?_ ?_)
theorem value_Chars.rlen (r : Nat) (h1 : r < 55296 ∨ 57343 < r) (h2 : r ≤ 1114111) : utf8_RuneLen.f 5 (r : Int) = some (X.rl r : Int) := by
  unfold utf8_RuneLen.f X.rl
  rw [if_neg (by omega)]
  by_cases a : r ≤ 127
  · rw [if_pos (by omega), if_pos a]; rfl
  rw [if_neg (by omega), if_neg a]
  by_cases b : r ≤ 2047
  · rw [if_pos (by omega), if_pos b]; rfl
  rw [if_neg (by omega), if_neg b]
  by_cases c : r ≤ 65535
  · rw [if_pos c]
    by_cases d : (55296 : Int) ≤ r
    · rw [if_pos d, decide_eq_false (by omega)]
      simp only [utf8_RuneLen.j0]
      simp only [Bool.false_eq_true, if_false]
      rw [if_pos (by omega)]; rfl
    · rw [if_neg d]
      simp only [utf8_RuneLen.j0]
      simp only [Bool.false_eq_true, if_false]
      rw [if_pos (by omega)]; rfl
  · rw [if_neg c, if_pos (by omega), decide_eq_false (by omega)]
    simp only [utf8_RuneLen.j0]
    simp only [Bool.false_eq_true, if_false]
    rw [if_neg (by omega)]
    try rw [if_pos (by omega)]
    try rfl
theorem value_Chars.pre (s : ByteArray) (pos : Nat) (h : pos < s.size) : (X.fffd s pos → strings_HasPrefix.f (s.extract pos s.size) (⟨#[239, 191, 189]⟩ : ByteArray) = some true) ∧ (¬ X.fffd s pos → strings_HasPrefix.f (s.extract pos s.size) (⟨#[239, 191, 189]⟩ : ByteArray) = some false) := by
  unfold strings_HasPrefix.f stringslite_HasPrefix.f
  have e3 : (((⟨#[239, 191, 189]⟩ : ByteArray).size : Nat) : Int) = 3 := rfl
  have es : ((s.extract pos s.size).size : Int) = (s.size : Int) - pos := by rw [ByteArray.size_extract]; omega
  rw [e3, es]
  by_cases c : (s.size : Int) - pos ≥ 3
  · rw [if_pos c, if_pos (by decide), if_pos (by omega)]
    rw [show ((3 : Int)).toNat = 3 from rfl, X.extract3 s pos (by omega)]
    have el : (⟨#[239, 191, 189]⟩ : ByteArray).toList = [239, 191, 189] := by rw [ByteArray.toList_eq]
    rw [el]
    refine ⟨fun hf => ?_, fun hf => ?_⟩
    · obtain ⟨_, a, b, d⟩ := hf
      rw [a, b, d]
      rfl
    · have : ([s.get! pos, s.get! (pos + 1), s.get! (pos + 2)] == [239, 191, 189]) = false := by
        rw [beq_eq_false_iff_ne]
        intro hq
        injection hq with a hq
        injection hq with b hq
        injection hq with d _
        exact hf ⟨by omega, a, b, d⟩
      rw [this]
      rfl
  · rw [if_neg c]
    exact ⟨fun hf => absurd hf.1 (by omega), fun _ => rfl⟩
theorem value_Chars.info : (Tryz.prog.info? 9).map (fun i => (i.zero, i.size, i.bytes)) = some (some (.string ⟨#[]⟩), 1, 16) := by kernel_rfl
set_option maxHeartbeats 8000000 in
set_option maxRecDepth 100000 in
theorem value_Chars.calls (k : Nat) (a0 : ByteArray) (r : List ByteArray) (w : World) (h : value_Chars.f k a0 = some r) :
    Calls Tryz.prog 47 #[.string a0] w fun e w' => ∃ v0_ : Value, e = .returned (v0_) ∧ Kd.R Kd.string 9 w' w.heap.size (fun _ => True) v0_ r ∧ Below w.heap.size w w' := by
  unfold value_Chars.f at h
  by_cases c0 : a0.size ≤ 140737488351232
  rotate_left
  · rw [if_neg c0] at h
    cases h
  rw [if_pos c0] at h
  have HZ := Aside0.mk c0
  clear c0
  have H' := Aside0.mk h
  clear h
  go_enter Tryz.func47, Tryz.ntmps47
  go_wp2
  go_loopg [3] k (fun kq v3 wr => ∃ (pos : Nat) (l : List ByteArray), Aside0 (value_Chars.l0 kq a0 pos l = some r) ∧ Aside0 (kq ≤ k) ∧ Aside0 (wr.heap[w.heap.size]? = some (.stringIter a0 pos)) ∧ Aside0 (Kd.R Kd.string 9 wr w.heap.size (fun k_ => k_ ≠ w.heap.size) v3 l) ∧ Aside0 (Below w.heap.size w wr))
  case atStart => exact ⟨0, [], H', ⟨Nat.le_refl _⟩, ⟨World.iter_heap w a0 0⟩, ⟨Kd.R_nil _ _ _ _ _⟩, ⟨(Below.refl _ _).alloc (Nat.le_refl _) _⟩⟩
  case round =>
    clear H'
    obtain ⟨pos, l, HA, HK, HI, HO, HB⟩ := hrel
    cases gk with
    | zero => exact absurd HA.out (by simp [value_Chars.l0])
    | succ k1 =>
      have H := HA.out
      clear HA
      simp only [value_Chars.l0] at H
      by_cases hp : pos < a0.size
      · rw [if_pos hp] at H
        by_cases cl : l.length < 8796093022208
        rotate_left
        · rw [if_neg cl] at H
          cases H
        rw [if_pos cl] at H
        have HLm := Aside0.mk cl
        clear cl
        have hnx : ∀ ty, (Instr.next (.pointer (some ⟨w.heap.size, 0, none⟩)) true ty).run Tryz.prog wr = _ := fun ty => Lib.run_next_any_at wr w.heap.size a0 pos ty HI.out hp
        obtain ⟨d1, d2, d3, d4, d5, d6⟩ := X.dec_facts a0 pos hp
        have HP := value_Chars.pre a0 pos hp
        have hit2 := Lib.iterAt_heap wr w.heap.size a0 pos (pos + (Utf8.decode a0 pos).2) HI.out
        have hb2 := Lib.below_iterAt HB.out (k := w.heap.size) (Nat.le_refl _) a0 (pos + (Utf8.decode a0 pos).2)
        have ho2 := Kd.R_step (w1 := wr.iterAt w.heap.size a0 (pos + (Utf8.decode a0 pos).2)) HO.out (fun k_ hk_ hl_ => Lib.iterAt_other _ _ _ _ _ (by first | exact hk_ | exact Ne.symm hk_))
        have hr := value_Chars.rlen (Utf8.decode a0 pos).1 d3 d4
        have hlt0 : w.heap.size < (wr.iterAt w.heap.size a0 (pos + (Utf8.decode a0 pos).2)).heap.size := by
          rcases Nat.lt_or_ge w.heap.size (wr.iterAt w.heap.size a0 (pos + (Utf8.decode a0 pos).2)).heap.size with hh | hh
          · exact hh
          · rw [Array.getElem?_eq_none hh] at hit2; cases hit2
        generalize (Utf8.decode a0 pos).1 = ru at hnx d3 d4 d5 d6 hr
        generalize (Utf8.decode a0 pos).2 = wi at hnx d1 d2 d5 d6 hit2 hb2 ho2 H hlt0
        generalize wr.iterAt w.heap.size a0 (pos + wi) = W1 at hnx hit2 hb2 ho2 hlt0
        obtain ⟨y, hy⟩ : ∃ y_ : List ByteArray, y_ = l ++ [a0.extract pos (pos + wi)] := ⟨_, rfl⟩
        rw [← hy] at H
        have HY := Aside0.mk hy
        have H' := Aside0.mk H
        have HI2 := Aside0.mk hit2
        have HB2 := Aside0.mk hb2
        have HO2 := Aside0.mk ho2
        have HR := Aside0.mk hr
        have HLT := Aside0.mk hlt0
        clear hy H hit2 hb2 ho2 hr hlt0 HI HO HB
        have h0 : (0 : Int) ≤ (pos : Int) := by omega
        have hz9 : (a0.size : Int) ≤ 140737488351232 := by have := HZ.out; omega
        have hq0 : (pos : Int) ≤ ((pos : Int) + (wi : Int)) := by omega
        have hq1 : ((pos : Int) + (wi : Int)) ≤ (a0.size : Int) := by omega
        have hq2 : (pos : Int) ≤ (a0.size : Int) := by omega
        by_cases e : ru = 65533
        · subst e
          have e1 : X.rl 65533 = 3 := by decide
          rw [e1] at HR
          clear e1
          rcases d6 rfl with ⟨hf, hw⟩ | ⟨hf, hw⟩
          · subst hw
            have HPP := Aside0.mk (HP.1 hf)
            have hq3 : (pos : Int) ≤ (pos : Int) + 3 := by omega
            have hq4 : (pos : Int) + 3 ≤ (a0.size : Int) := by omega
            clear HP d5 d6 hf d3 d4
            go_wp2_with (first
              | (go_at_call 101; refine (utf8_RuneLen.calls 5 _ _ _ HR.out).mono ?_; rintro e w' ⟨rfl, ⟨nd, rfl⟩⟩)
              | (go_at_call 102; refine (strings_HasPrefix.calls _ _ _ _ HPP.out).mono ?_; rintro e w' ⟨rfl, ⟨nd2, rfl⟩⟩)
              | ((with_reducible refine gate_builtin (b := .append) (xs := #[.tmp 24, .tmp 31]) rfl ?_); at_builtin; refine Kd.R_append Kd.string (w0 := w) w.heap.size rfl (.tmp 24) (.tmp 31) 51 9 (.string ⟨#[]⟩) 16 rfl Tryz.underlying51 value_Chars.info rfl (by decide) (by omega) u3 l (a0.extract pos (pos + 3)) [.string (a0.extract pos (pos + 3))] (fun k_ => k_ ≠ w.heap.size) (fun _ => False) rfl rfl ?aP (fun _ hk => hk.elim) ?aF ?aO ?aB ?aS ?aL ?_; (case aP => exact rfl); (case aB => exact (by repeat (first | (with_reducible first | exact HB2.out | apply below_alloc | apply pw_below_drewN | apply below_drew1) | exact HB2.out))); (case aF => exact (fun k_ hk_ => by have h1_ := HLT.out; simp at hk_; omega)); (case aO => exact (by (with_reducible repeat (first | apply Kd.R_alloc | apply Kd.R_drewN | apply Kd.R_drew)); exact HO2.out)); (case aS => exact (below_size (by repeat (first | (with_reducible first | exact HB2.out | apply below_alloc | apply pw_below_drewN | apply below_drew1) | exact HB2.out)))); (case aL => have := HLm.out; omega); intro v9 w9 ho hb hg hat; rw [← HY.out] at ho; have hI9 := (hg.block w.heap.size (by have h1_ := HLT.out; simp; omega) (fun e_ => (Kd.R_away HO2.out (fun _ h_ => h_)) e_)).trans HI2.out; have HB9 := Aside0.mk hb; have HO9 := Aside0.mk ho; have HI9 := Aside0.mk hI9; clear ho hb hg hat hI9))
            go_roundg k1
            case measure => have := HK.out; omega
            case rel => exact ⟨pos + 3, y, H', ⟨by have := HK.out; omega⟩, HI9, HO9, HB9⟩
          · subst hw
            have HPP := Aside0.mk (HP.2 hf)
            have hq3 : (pos : Int) ≤ (pos : Int) + 1 := by omega
            have hq4 : (pos : Int) + 1 ≤ (a0.size : Int) := by omega
            clear HP d5 d6 hf d3 d4
            go_wp2_with (first
              | (go_at_call 101; refine (utf8_RuneLen.calls 5 _ _ _ HR.out).mono ?_; rintro e w' ⟨rfl, ⟨nd, rfl⟩⟩)
              | (go_at_call 102; refine (strings_HasPrefix.calls _ _ _ _ HPP.out).mono ?_; rintro e w' ⟨rfl, ⟨nd2, rfl⟩⟩)
              | ((with_reducible refine gate_builtin (b := .append) (xs := #[.tmp 24, .tmp 31]) rfl ?_); at_builtin; refine Kd.R_append Kd.string (w0 := w) w.heap.size rfl (.tmp 24) (.tmp 31) 51 9 (.string ⟨#[]⟩) 16 rfl Tryz.underlying51 value_Chars.info rfl (by decide) (by omega) u3 l (a0.extract pos (pos + 1)) [.string (a0.extract pos (pos + 1))] (fun k_ => k_ ≠ w.heap.size) (fun _ => False) rfl rfl ?aP (fun _ hk => hk.elim) ?aF ?aO ?aB ?aS ?aL ?_; (case aP => exact rfl); (case aB => exact (by repeat (first | (with_reducible first | exact HB2.out | apply below_alloc | apply pw_below_drewN | apply below_drew1) | exact HB2.out))); (case aF => exact (fun k_ hk_ => by have h1_ := HLT.out; simp at hk_; omega)); (case aO => exact (by (with_reducible repeat (first | apply Kd.R_alloc | apply Kd.R_drewN | apply Kd.R_drew)); exact HO2.out)); (case aS => exact (below_size (by repeat (first | (with_reducible first | exact HB2.out | apply below_alloc | apply pw_below_drewN | apply below_drew1) | exact HB2.out)))); (case aL => have := HLm.out; omega); intro v9 w9 ho hb hg hat; rw [← HY.out] at ho; have hI9 := (hg.block w.heap.size (by have h1_ := HLT.out; simp; omega) (fun e_ => (Kd.R_away HO2.out (fun _ h_ => h_)) e_)).trans HI2.out; have HB9 := Aside0.mk hb; have HO9 := Aside0.mk ho; have HI9 := Aside0.mk hI9; clear ho hb hg hat hI9))
            go_roundg k1
            case measure => have := HK.out; omega
            case rel => exact ⟨pos + 1, y, H', ⟨by have := HK.out; omega⟩, HI9, HO9, HB9⟩
        · have hw := d5 e
          have en : ((ru : Int) == 65533) = false := beq_eq_false_iff_ne.mpr (by omega)
          have hrl : X.rl ru = wi := hw.symm
          rw [hrl] at HR
          clear HP d5 d6 hw hrl d3 d4 e
          go_wp2_with (first
            | (go_at_call 101; refine (utf8_RuneLen.calls 5 _ _ _ HR.out).mono ?_; rintro e w' ⟨rfl, ⟨nd, rfl⟩⟩)
            | ((with_reducible refine gate_builtin (b := .append) (xs := #[.tmp 24, .tmp 31]) rfl ?_); at_builtin; refine Kd.R_append Kd.string (w0 := w) w.heap.size rfl (.tmp 24) (.tmp 31) 51 9 (.string ⟨#[]⟩) 16 rfl Tryz.underlying51 value_Chars.info rfl (by decide) (by omega) u3 l (a0.extract pos (pos + wi)) [.string (a0.extract pos (pos + wi))] (fun k_ => k_ ≠ w.heap.size) (fun _ => False) rfl rfl ?aP (fun _ hk => hk.elim) ?aF ?aO ?aB ?aS ?aL ?_; (case aP => exact rfl); (case aB => exact (by repeat (first | (with_reducible first | exact HB2.out | apply below_alloc | apply pw_below_drewN | apply below_drew1) | exact HB2.out))); (case aF => exact (fun k_ hk_ => by have h1_ := HLT.out; simp at hk_; omega)); (case aO => exact (by (with_reducible repeat (first | apply Kd.R_alloc | apply Kd.R_drewN | apply Kd.R_drew)); exact HO2.out)); (case aS => exact (below_size (by repeat (first | (with_reducible first | exact HB2.out | apply below_alloc | apply pw_below_drewN | apply below_drew1) | exact HB2.out)))); (case aL => have := HLm.out; omega); intro v9 w9 ho hb hg hat; rw [← HY.out] at ho; have hI9 := (hg.block w.heap.size (by have h1_ := HLT.out; simp; omega) (fun e_ => (Kd.R_away HO2.out (fun _ h_ => h_)) e_)).trans HI2.out; have HB9 := Aside0.mk hb; have HO9 := Aside0.mk ho; have HI9 := Aside0.mk hI9; clear ho hb hg hat hI9))
          go_roundg k1
          case measure => have := HK.out; omega
          case rel => exact ⟨pos + wi, y, H', ⟨by have := HK.out; omega⟩, HI9, HO9, HB9⟩
      · rw [if_neg hp] at H
        obtain rfl := Option.some.inj H
        have hnx : ∀ ty, (Instr.next (.pointer (some ⟨w.heap.size, 0, none⟩)) true ty).run Tryz.prog wr = _ := fun ty => Lib.run_next_end_at wr w.heap.size a0 pos ty HI.out hp
        go_wp2
        go_ret
        exact ⟨_, rfl, Kd.R_mono HO.out (fun _ _ => trivial), HB.out⟩
end Go.Proofs.YtcbknemdidehlaaGreatDoor.P
