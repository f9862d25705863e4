-- Written by a program of this session (wip/tools/xprint.py), out of the seat's translation. Not trusted: Lean checks it.
import Derived.Test.YtllceoncpgebpaaGreatDoorPx0
import Derived.Test.YtllceoncpgebpaaGreatDoorPx7
namespace Go.Proofs.YtllceoncpgebpaaGreatDoor.P
open Go.RowKit Go.Proofs.YtllceoncpgebpaaGreatDoorW.PrintWords Go.Proofs.YtllceoncpgebpaaGreatDoorW.PrintLast Go.Proofs.YtllceoncpgebpaaGreatDoorW.PrintMore
attribute [local go_sem] max2_int min2_int max_two min_two max_three min_three max_four min_four X.binOp_str_gtr X.binOp_str_leq
set_option linter.unusedVariables false
set_option linter.unusedSimpArgs false
mutual
def octavoref07_Parts.j0 : Nat → Int → Bool → Option (Int × Int × Int × Bool)
 | 0, _, _ => none
 | k + 1, x0, x15 => if x15 = true then (some (0, 0, 0, false)) else (octavoref07_Parts.l0 k x0 1900 9999)
def octavoref07_Parts.l0 : Nat → Int → Int → Int → Option (Int × Int × Int × Bool)
 | 0, _, _, _ => none
 | k + 1, x0, x6, x7 => if x6 < x7 then ((octavoref07_ahead.f (wrap64 (Int.tdiv (wrap64 ((wrap64 (x6 + x7)) + 1)) 2))).bind fun t185 => (if t185 < x0 then (octavoref07_Parts.l0 k x0 (wrap64 (Int.tdiv (wrap64 ((wrap64 (x6 + x7)) + 1)) 2)) x7) else (octavoref07_Parts.l0 k x0 x6 (wrap64 ((wrap64 (Int.tdiv (wrap64 ((wrap64 (x6 + x7)) + 1)) 2)) - 1))))) else (octavoref07_Parts.l1 k x0 x6 1)
def octavoref07_Parts.l1 : Nat → Int → Int → Int → Option (Int × Int × Int × Bool)
 | 0, _, _, _ => none
 | k + 1, x0, x6, x9 => if x9 < 12 then ((octavoref07_first.f k x6 (wrap64 (x9 + 1))).bind fun t186 => (if t186 < x0 then (octavoref07_Parts.l1 k x0 x6 (wrap64 (x9 + 1))) else ((octavoref07_first.f k x6 x9).bind fun t187 => (some (x6, x9, wrap64 (x0 - t187), true))))) else ((octavoref07_first.f k x6 x9).bind fun t188 => (some (x6, x9, wrap64 (x0 - t188), true)))
end
def octavoref07_Parts.f (k : Nat) (a0 : Int) : Option (Int × Int × Int × Bool) := if a0 < 1 then (octavoref07_Parts.j0 k a0 true) else (octavoref07_Parts.j0 k a0 (decide (a0 > 2958464)))
theorem octavoref07_Parts.mono_l : ∀ k, (∀ y0 y1, LeO (octavoref07_Parts.j0 k y0 y1) (octavoref07_Parts.j0 (k + 1) y0 y1)) ∧ (∀ y0 y1 y2, LeO (octavoref07_Parts.l0 k y0 y1 y2) (octavoref07_Parts.l0 (k + 1) y0 y1 y2)) ∧ (∀ y0 y1 y2, LeO (octavoref07_Parts.l1 k y0 y1 y2) (octavoref07_Parts.l1 (k + 1) y0 y1 y2))
 | 0 => ⟨fun _ _ r h => by simp [octavoref07_Parts.j0] at h, fun _ _ _ r h => by simp [octavoref07_Parts.l0] at h, fun _ _ _ r h => by simp [octavoref07_Parts.l1] at h⟩
 | k + 1 => by
  obtain ⟨ih0, ih1, ih2⟩ := octavoref07_Parts.mono_l k
  refine ⟨?_, ?_, ?_⟩
  ·intro y0 y1
   unfold octavoref07_Parts.j0
   repeat' first
   | (with_reducible exact ih0 _ _)
   | (with_reducible exact ih1 _ _ _)
   | (with_reducible exact ih2 _ _ _)
   | (with_reducible exact octavoref07_first.mono _ _ _)
   | (with_reducible exact LeO.refl _)
   | (with_reducible exact LeO.none _)
   | (with_reducible refine LeO.ite ?_ ?_)
   | (with_reducible refine LeO.bind ?_ (fun _ => ?_))
   | exact ih0 _ _
   | exact ih1 _ _ _
   | exact ih2 _ _ _
   | exact octavoref07_first.mono _ _ _
   | exact LeO.none _
   | refine LeO.ite ?_ ?_
   | refine LeO.bind ?_ (fun _ => ?_)
  ·intro y0 y1 y2
   unfold octavoref07_Parts.l0
   repeat' first
   | (with_reducible exact ih0 _ _)
   | (with_reducible exact ih1 _ _ _)
   | (with_reducible exact ih2 _ _ _)
   | (with_reducible exact octavoref07_first.mono _ _ _)
   | (with_reducible exact LeO.refl _)
   | (with_reducible exact LeO.none _)
   | (with_reducible refine LeO.ite ?_ ?_)
   | (with_reducible refine LeO.bind ?_ (fun _ => ?_))
   | exact ih0 _ _
   | exact ih1 _ _ _
   | exact ih2 _ _ _
   | exact octavoref07_first.mono _ _ _
   | exact LeO.none _
   | refine LeO.ite ?_ ?_
   | refine LeO.bind ?_ (fun _ => ?_)
  ·intro y0 y1 y2
   unfold octavoref07_Parts.l1
   repeat' first
   | (with_reducible exact ih0 _ _)
   | (with_reducible exact ih1 _ _ _)
   | (with_reducible exact ih2 _ _ _)
   | (with_reducible exact octavoref07_first.mono _ _ _)
   | (with_reducible exact LeO.refl _)
   | (with_reducible exact LeO.none _)
   | (with_reducible refine LeO.ite ?_ ?_)
   | (with_reducible refine LeO.bind ?_ (fun _ => ?_))
   | exact ih0 _ _
   | exact ih1 _ _ _
   | exact ih2 _ _ _
   | exact octavoref07_first.mono _ _ _
   | exact LeO.none _
   | refine LeO.ite ?_ ?_
   | refine LeO.bind ?_ (fun _ => ?_)
theorem octavoref07_Parts.mono : ∀ a0 k, LeO (octavoref07_Parts.f k a0) (octavoref07_Parts.f (k + 1) a0) := by
 intro a0 k
 obtain ⟨ih0, ih1, ih2⟩ := octavoref07_Parts.mono_l k
 unfold octavoref07_Parts.f
 repeat' first
   | (with_reducible exact ih0 _ _)
   | (with_reducible exact ih1 _ _ _)
   | (with_reducible exact ih2 _ _ _)
   | (with_reducible exact octavoref07_first.mono _ _ _)
   | (with_reducible exact LeO.refl _)
   | (with_reducible exact LeO.none _)
   | (with_reducible refine LeO.ite ?_ ?_)
   | (with_reducible refine LeO.bind ?_ (fun _ => ?_))
   | exact ih0 _ _
   | exact ih1 _ _ _
   | exact ih2 _ _ _
   | exact octavoref07_first.mono _ _ _
   | exact LeO.none _
   | refine LeO.ite ?_ ?_
   | refine LeO.bind ?_ (fun _ => ?_)
set_option maxHeartbeats 8000000 in
set_option maxRecDepth 100000 in
theorem octavoref07_Parts.calls (k : Nat) (a0 : Int) (r1 : Int) (r2 : Int) (r3 : Int) (r4 : Bool) (w : World) (h : octavoref07_Parts.f k a0 = some (r1, r2, r3, r4)) :
  Calls Tryz.prog 71 #[.int .i64 a0] w fun e w' => e = .returned (.tuple #[.int .i64 r1, .int .i64 r2, .int .i64 r3, .bool r4]) ∧ Drawn0 w w' := by
 have H : (if a0 < 1 then (octavoref07_Parts.j0 k a0 true) else (octavoref07_Parts.j0 k a0 (decide (a0 > 2958464)))) = some (r1, r2, r3, r4) := h
 clear h
 have HC2 := Aside0.mk H
 clear H
 go_enter Tryz.func71, Tryz.ntmps71
 go_upto_region 1 with (fail)
 go_cut [15] (fun v15 wc => ∃ (kq : Nat) (x15_1 : Bool), v15 = .bool x15_1 ∧ Aside0 (octavoref07_Parts.j0 kq a0 x15_1 = some (r1, r2, r3, r4)) ∧ Aside0 (kq ≤ k) ∧ Drawn0 w wc)
 case first =>
  have H := HC2.out
  clear HC2
  by_cases c3 : a0 < 1
  ·rw [if_pos c3] at H
   have c3b0 : decide (a0 < 1) = true := decide_eq_true c3
   clear c3
   (first | rw [c3b0] | (simp only [i64_w, i32_w]; rw [c3b0]) | skip)
   have H' := Aside0.mk H
   clear H
   go_wp2
   go_meet
   case rel => exact ⟨_, (true), zrl, H', ⟨by first | omega | exact Nat.le_refl _⟩, zdn⟩
  ·rw [if_neg c3] at H
   have c3b0 : decide (a0 < 1) = false := decide_eq_false c3
   clear c3
   (first | rw [c3b0] | (simp only [i64_w, i32_w]; rw [c3b0]) | skip)
   have H' := Aside0.mk H
   clear H
   go_wp2
   go_meet
   case rel => exact ⟨_, (decide (a0 > 2958464)), zrl, H', ⟨by first | omega | exact Nat.le_refl _⟩, zdn⟩
 case rest =>
  clear HC2
  try clear p2
  try clear c3
  try clear c3b0
  obtain ⟨kq, x15_1, rfl, HA, HJ1, ⟨mc1, rfl⟩⟩ := hcut
  cases kq with
  | zero => exact absurd HA.out (by simp [octavoref07_Parts.j0])
  | succ kj1 =>
   have H := HA.out
   clear HA
   simp only [octavoref07_Parts.j0] at H
   by_cases c4 : x15_1 = true
   ·subst c4
    have H1 : (some (0, 0, 0, false)) = some (r1, r2, r3, r4) := by rw [if_pos rfl] at H; exact H
    clear H
    have H := H1
    clear H1
    simp only [Option.some.injEq, Prod.mk.injEq] at H
    obtain ⟨rfl, rfl, rfl, rfl⟩ := H
    go_wp2
    refine bodyPost_ret (results_list (rs := [.tmp 2, .tmp 3, .tmp 4, .tmp 5]) rfl (by simp) (.tmp (.tmp (.tmp (.tmp .nil))))) rfl ?_
    exact ⟨zrl, zdn⟩
   ·replace c4 := Bool.eq_false_iff.mpr c4
    subst c4
    have H1 : (octavoref07_Parts.l0 kj1 a0 1900 9999) = some (r1, r2, r3, r4) := by rw [if_neg (show ¬ (false = true) by decide)] at H; exact H
    clear H
    have H := H1
    clear H1
    have H' := Aside0.mk H
    clear H
    go_wp2
    go_loopg [6, 7] kj1 (fun kq v6 v7 w' => ∃ (x6_2 : Int) (x7_2 : Int), v6 = .int .i64 x6_2 ∧ v7 = .int .i64 x7_2 ∧ Aside0 (octavoref07_Parts.l0 kq a0 x6_2 x7_2 = some (r1, r2, r3, r4)) ∧ Aside0 (kq ≤ kj1) ∧ Drawn0 w w')
    case atStart => exact ⟨(1900), (9999), zrl, zrl, H', ⟨Nat.le_refl _⟩, zdn⟩
    case round =>
     clear H'
     try clear c1
     try clear p2
     try clear c3
     try clear c3b0
     try clear c4
     try clear p2
     obtain ⟨x6_2, x7_2, rfl, rfl, HA, HK2, ⟨m2, rfl⟩⟩ := hrel
     cases gk with
     | zero => exact absurd HA.out (by simp [octavoref07_Parts.l0])
     | succ k2 =>
      have H := HA.out
      clear HA
      simp only [octavoref07_Parts.l0] at H
      by_cases c5 : x6_2 < x7_2
      ·rw [if_pos c5] at H
       have c5b0 : decide (x6_2 < x7_2) = true := decide_eq_true c5
       clear c5
       replace H := Option.bind_eq_some_iff.mp H
       obtain ⟨t185, A60, H⟩ := H
       replace H : (if t185 < a0 then (octavoref07_Parts.l0 k2 a0 (wrap64 (Int.tdiv (wrap64 ((wrap64 (x6_2 + x7_2)) + 1)) 2)) x7_2) else (octavoref07_Parts.l0 k2 a0 x6_2 (wrap64 ((wrap64 (Int.tdiv (wrap64 ((wrap64 (x6_2 + x7_2)) + 1)) 2)) - 1)))) = some (r1, r2, r3, r4) := H
       have A6 := Aside0.mk A60
       clear A60
       by_cases c7 : t185 < a0
       ·rw [if_pos c7] at H
        have c7b0 : decide (t185 < a0) = true := decide_eq_true c7
        clear c7
        have H' := Aside0.mk H
        clear H
        go_wp2_with (first | ((with_reducible refine gate_callee (f := 113) rfl ?_); refine goesL_ (some 25) rfl rfl Tryz.func113 (by kernel_rfl) rfl #[.int .i64 (wrap64 (Int.tdiv (wrap64 ((wrap64 (x6_2 + x7_2)) + 1)) 2))] rfl (by (try simp only [List.map_toArray, List.map_cons, List.map_nil]); first | done | rfl | (simp only [List.length_drop, List.length_take]; rfl)) ?_; (with_reducible refine (octavoref07_ahead.calls (wrap64 (Int.tdiv (wrap64 ((wrap64 (x6_2 + x7_2)) + 1)) 2)) t185 _ A6.out).mono ?_); rintro e w' ⟨rfl, ⟨nd, rfl⟩⟩; refine ⟨_, rfl, ?_⟩))
        go_roundg k2
        case measure => have := HJ1.out; have := HK2.out; omega
        case rel => exact ⟨(wrap64 (Int.tdiv (wrap64 ((wrap64 (x6_2 + x7_2)) + 1)) 2)), (x7_2), zrl, zrl, H', ⟨by have := HJ1.out; have := HK2.out; omega⟩, zdn⟩
       ·rw [if_neg c7] at H
        have c7b0 : decide (t185 < a0) = false := decide_eq_false c7
        clear c7
        have H' := Aside0.mk H
        clear H
        go_wp2_with (first | ((with_reducible refine gate_callee (f := 113) rfl ?_); refine goesL_ (some 25) rfl rfl Tryz.func113 (by kernel_rfl) rfl #[.int .i64 (wrap64 (Int.tdiv (wrap64 ((wrap64 (x6_2 + x7_2)) + 1)) 2))] rfl (by (try simp only [List.map_toArray, List.map_cons, List.map_nil]); first | done | rfl | (simp only [List.length_drop, List.length_take]; rfl)) ?_; (with_reducible refine (octavoref07_ahead.calls (wrap64 (Int.tdiv (wrap64 ((wrap64 (x6_2 + x7_2)) + 1)) 2)) t185 _ A6.out).mono ?_); rintro e w' ⟨rfl, ⟨nd, rfl⟩⟩; refine ⟨_, rfl, ?_⟩))
        go_roundg k2
        case measure => have := HJ1.out; have := HK2.out; omega
        case rel => exact ⟨(x6_2), (wrap64 ((wrap64 (Int.tdiv (wrap64 ((wrap64 (x6_2 + x7_2)) + 1)) 2)) - 1)), zrl, zrl, H', ⟨by have := HJ1.out; have := HK2.out; omega⟩, zdn⟩
      ·rw [if_neg c5] at H
       have c5b0 : decide (x6_2 < x7_2) = false := decide_eq_false c5
       clear c5
       have H' := Aside0.mk H
       clear H
       go_wp2
       go_loopg [9] k2 (fun kq v9 w' => ∃ (x9_3 : Int), v9 = .int .i64 x9_3 ∧ Aside0 (octavoref07_Parts.l1 kq a0 x6_2 x9_3 = some (r1, r2, r3, r4)) ∧ Aside0 (kq ≤ k2) ∧ Drawn0 w w')
       case atStart => exact ⟨(1), zrl, H', ⟨Nat.le_refl _⟩, zdn⟩
       case round =>
        clear H'
        try clear c1
        try clear p2
        try clear c3
        try clear c3b0
        try clear c4
        try clear c5
        try clear c5b0
        try clear p6
        try clear c7
        try clear c7b0
        try clear p2
        obtain ⟨x9_3, rfl, HA, HK3, ⟨m3, rfl⟩⟩ := hrel
        cases gk with
        | zero => exact absurd HA.out (by simp [octavoref07_Parts.l1])
        | succ k3 =>
         have H := HA.out
         clear HA
         simp only [octavoref07_Parts.l1] at H
         by_cases c8 : x9_3 < 12
         ·rw [if_pos c8] at H
          have c8b0 : decide (x9_3 < 12) = true := decide_eq_true c8
          clear c8
          replace H := Option.bind_eq_some_iff.mp H
          obtain ⟨t186, A90, H⟩ := H
          replace H : (if t186 < a0 then (octavoref07_Parts.l1 k3 a0 x6_2 (wrap64 (x9_3 + 1))) else ((octavoref07_first.f k3 x6_2 x9_3).bind fun t187 => (some (x6_2, x9_3, wrap64 (a0 - t187), true)))) = some (r1, r2, r3, r4) := H
          have A9 := Aside0.mk A90
          clear A90
          by_cases c10 : t186 < a0
          ·rw [if_pos c10] at H
           have c10b0 : decide (t186 < a0) = true := decide_eq_true c10
           clear c10
           have H' := Aside0.mk H
           clear H
           go_wp2_with (first | (go_at_call 108; (with_reducible refine (octavoref07_first.calls k3 x6_2 (wrap64 (x9_3 + 1)) t186 _ A9.out).mono ?_); rintro e w' ⟨rfl, ⟨nd, rfl⟩⟩))
           go_roundg k3
           case measure => have := HJ1.out; have := HK2.out; have := HK3.out; omega
           case rel => exact ⟨(wrap64 (x9_3 + 1)), zrl, H', ⟨by have := HJ1.out; have := HK2.out; have := HK3.out; omega⟩, zdn⟩
          ·rw [if_neg c10] at H
           have c10b0 : decide (t186 < a0) = false := decide_eq_false c10
           clear c10
           replace H := Option.bind_eq_some_iff.mp H
           obtain ⟨t187, A110, H⟩ := H
           replace H : (some (x6_2, x9_3, wrap64 (a0 - t187), true)) = some (r1, r2, r3, r4) := H
           have A11 := Aside0.mk A110
           clear A110
           simp only [Option.some.injEq, Prod.mk.injEq] at H
           obtain ⟨rfl, rfl, rfl, rfl⟩ := H
           go_wp2_with (first | (go_at_call 108; (with_reducible refine (octavoref07_first.calls k3 x6_2 (wrap64 (x9_3 + 1)) t186 _ A9.out).mono ?_); rintro e w' ⟨rfl, ⟨nd, rfl⟩⟩) | ((with_reducible refine gate_callee (f := 108) rfl ?_); refine goesL_ (some 48) rfl rfl Tryz.func108 (by kernel_rfl) rfl #[.int .i64 x6_2, .int .i64 x9_3] rfl (by (try simp only [List.map_toArray, List.map_cons, List.map_nil]); first | done | rfl | (simp only [List.length_drop, List.length_take]; rfl)) ?_; (with_reducible refine (octavoref07_first.calls k3 x6_2 x9_3 t187 _ A11.out).mono ?_); rintro e w' ⟨rfl, ⟨nd, rfl⟩⟩; refine ⟨_, rfl, ?_⟩))
           refine bodyPost_ret (results_list (rs := [.tmp 2, .tmp 3, .tmp 4, .tmp 5]) rfl (by simp) (.tmp (.tmp (.tmp (.tmp .nil))))) rfl ?_
           exact ⟨zrl, zdn⟩
         ·rw [if_neg c8] at H
          have c8b0 : decide (x9_3 < 12) = false := decide_eq_false c8
          clear c8
          replace H := Option.bind_eq_some_iff.mp H
          obtain ⟨t188, A120, H⟩ := H
          replace H : (some (x6_2, x9_3, wrap64 (a0 - t188), true)) = some (r1, r2, r3, r4) := H
          have A12 := Aside0.mk A120
          clear A120
          simp only [Option.some.injEq, Prod.mk.injEq] at H
          obtain ⟨rfl, rfl, rfl, rfl⟩ := H
          go_wp2_with (first | ((with_reducible refine gate_callee (f := 108) rfl ?_); refine goesL_ (some 48) rfl rfl Tryz.func108 (by kernel_rfl) rfl #[.int .i64 x6_2, .int .i64 x9_3] rfl (by (try simp only [List.map_toArray, List.map_cons, List.map_nil]); first | done | rfl | (simp only [List.length_drop, List.length_take]; rfl)) ?_; (with_reducible refine (octavoref07_first.calls k3 x6_2 x9_3 t188 _ A12.out).mono ?_); rintro e w' ⟨rfl, ⟨nd, rfl⟩⟩; refine ⟨_, rfl, ?_⟩))
          refine bodyPost_ret (results_list (rs := [.tmp 2, .tmp 3, .tmp 4, .tmp 5]) rfl (by simp) (.tmp (.tmp (.tmp (.tmp .nil))))) rfl ?_
          exact ⟨zrl, zdn⟩
mutual
def octavoref07_Months.j0 : Nat → Int → Bool → Int → Int → Int → Bool → Option (Int × Bool)
 | 0, _, _, _, _, _, _ => none
 | k + 1, x1, x2, x8, x9, x10, x29 => if x29 = true then (some (0, false)) else (octavoref07_Months.l0 k x2 x8 (wrap64 (x9 + x1)) x10)
def octavoref07_Months.l0 : Nat → Bool → Int → Int → Int → Option (Int × Bool)
 | 0, _, _, _, _ => none
 | k + 1, x2, x8, x9, x10 => if x9 < 1 then (octavoref07_Months.l0 k x2 (wrap64 (x8 - 1)) (wrap64 (x9 + 12)) x10) else (octavoref07_Months.l1 k x2 x8 x9 x10)
def octavoref07_Months.l1 : Nat → Bool → Int → Int → Int → Option (Int × Bool)
 | 0, _, _, _, _ => none
 | k + 1, x2, x8, x9, x10 => if x9 > 12 then (octavoref07_Months.l1 k x2 (wrap64 (x8 + 1)) (wrap64 (x9 - 12)) x10) else ((octavoref07_Last.f k x8 x9).bind fun t193 => (if x2 = true then ((octavoref07_Day.f k x8 x9 t193).bind fun bt194 => (some (bt194.1, bt194.2))) else (if x10 > t193 then ((octavoref07_Day.f k x8 x9 t193).bind fun bt196 => (some (bt196.1, bt196.2))) else ((octavoref07_Day.f k x8 x9 x10).bind fun bt198 => (some (bt198.1, bt198.2))))))
end
def octavoref07_Months.f (k : Nat) (a0 : Int) (a1 : Int) (a2 : Bool) : Option (Int × Bool) := (octavoref07_Parts.f k a0).bind fun bt189 => (if bt189.2.2.2 = true then (if a1 < (-100000) then (octavoref07_Months.j0 k a1 a2 bt189.1 bt189.2.1 bt189.2.2.1 true) else (octavoref07_Months.j0 k a1 a2 bt189.1 bt189.2.1 bt189.2.2.1 (decide (a1 > 100000)))) else (octavoref07_Months.j0 k a1 a2 bt189.1 bt189.2.1 bt189.2.2.1 true))
theorem octavoref07_Months.mono_l : ∀ k, (∀ y0 y1 y2 y3 y4 y5, LeO (octavoref07_Months.j0 k y0 y1 y2 y3 y4 y5) (octavoref07_Months.j0 (k + 1) y0 y1 y2 y3 y4 y5)) ∧ (∀ y0 y1 y2 y3, LeO (octavoref07_Months.l0 k y0 y1 y2 y3) (octavoref07_Months.l0 (k + 1) y0 y1 y2 y3)) ∧ (∀ y0 y1 y2 y3, LeO (octavoref07_Months.l1 k y0 y1 y2 y3) (octavoref07_Months.l1 (k + 1) y0 y1 y2 y3))
 | 0 => ⟨fun _ _ _ _ _ _ r h => by simp [octavoref07_Months.j0] at h, fun _ _ _ _ r h => by simp [octavoref07_Months.l0] at h, fun _ _ _ _ r h => by simp [octavoref07_Months.l1] at h⟩
 | k + 1 => by
  obtain ⟨ih0, ih1, ih2⟩ := octavoref07_Months.mono_l k
  refine ⟨?_, ?_, ?_⟩
  ·intro y0 y1 y2 y3 y4 y5
   unfold octavoref07_Months.j0
   repeat' first
   | (with_reducible exact ih0 _ _ _ _ _ _)
   | (with_reducible exact ih1 _ _ _ _)
   | (with_reducible exact ih2 _ _ _ _)
   | (with_reducible exact octavoref07_Day.mono _ _ _ _)
   | (with_reducible exact octavoref07_Last.mono _ _ _)
   | (with_reducible exact octavoref07_Parts.mono _ _)
   | (with_reducible exact LeO.refl _)
   | (with_reducible exact LeO.none _)
   | (with_reducible refine LeO.ite ?_ ?_)
   | (with_reducible refine LeO.bind ?_ (fun _ => ?_))
   | exact ih0 _ _ _ _ _ _
   | exact ih1 _ _ _ _
   | exact ih2 _ _ _ _
   | exact octavoref07_Day.mono _ _ _ _
   | exact octavoref07_Last.mono _ _ _
   | exact octavoref07_Parts.mono _ _
   | exact LeO.none _
   | refine LeO.ite ?_ ?_
   | refine LeO.bind ?_ (fun _ => ?_)
  ·intro y0 y1 y2 y3
   unfold octavoref07_Months.l0
   repeat' first
   | (with_reducible exact ih0 _ _ _ _ _ _)
   | (with_reducible exact ih1 _ _ _ _)
   | (with_reducible exact ih2 _ _ _ _)
   | (with_reducible exact octavoref07_Day.mono _ _ _ _)
   | (with_reducible exact octavoref07_Last.mono _ _ _)
   | (with_reducible exact octavoref07_Parts.mono _ _)
   | (with_reducible exact LeO.refl _)
   | (with_reducible exact LeO.none _)
   | (with_reducible refine LeO.ite ?_ ?_)
   | (with_reducible refine LeO.bind ?_ (fun _ => ?_))
   | exact ih0 _ _ _ _ _ _
   | exact ih1 _ _ _ _
   | exact ih2 _ _ _ _
   | exact octavoref07_Day.mono _ _ _ _
   | exact octavoref07_Last.mono _ _ _
   | exact octavoref07_Parts.mono _ _
   | exact LeO.none _
   | refine LeO.ite ?_ ?_
   | refine LeO.bind ?_ (fun _ => ?_)
  ·intro y0 y1 y2 y3
   unfold octavoref07_Months.l1
   repeat' first
   | (with_reducible exact ih0 _ _ _ _ _ _)
   | (with_reducible exact ih1 _ _ _ _)
   | (with_reducible exact ih2 _ _ _ _)
   | (with_reducible exact octavoref07_Day.mono _ _ _ _)
   | (with_reducible exact octavoref07_Last.mono _ _ _)
   | (with_reducible exact octavoref07_Parts.mono _ _)
   | (with_reducible exact LeO.refl _)
   | (with_reducible exact LeO.none _)
   | (with_reducible refine LeO.ite ?_ ?_)
   | (with_reducible refine LeO.bind ?_ (fun _ => ?_))
   | exact ih0 _ _ _ _ _ _
   | exact ih1 _ _ _ _
   | exact ih2 _ _ _ _
   | exact octavoref07_Day.mono _ _ _ _
   | exact octavoref07_Last.mono _ _ _
   | exact octavoref07_Parts.mono _ _
   | exact LeO.none _
   | refine LeO.ite ?_ ?_
   | refine LeO.bind ?_ (fun _ => ?_)
theorem octavoref07_Months.mono : ∀ a0 a1 a2 k, LeO (octavoref07_Months.f k a0 a1 a2) (octavoref07_Months.f (k + 1) a0 a1 a2) := by
 intro a0 a1 a2 k
 obtain ⟨ih0, ih1, ih2⟩ := octavoref07_Months.mono_l k
 unfold octavoref07_Months.f
 repeat' first
   | (with_reducible exact ih0 _ _ _ _ _ _)
   | (with_reducible exact ih1 _ _ _ _)
   | (with_reducible exact ih2 _ _ _ _)
   | (with_reducible exact octavoref07_Day.mono _ _ _ _)
   | (with_reducible exact octavoref07_Last.mono _ _ _)
   | (with_reducible exact octavoref07_Parts.mono _ _)
   | (with_reducible exact LeO.refl _)
   | (with_reducible exact LeO.none _)
   | (with_reducible refine LeO.ite ?_ ?_)
   | (with_reducible refine LeO.bind ?_ (fun _ => ?_))
   | exact ih0 _ _ _ _ _ _
   | exact ih1 _ _ _ _
   | exact ih2 _ _ _ _
   | exact octavoref07_Day.mono _ _ _ _
   | exact octavoref07_Last.mono _ _ _
   | exact octavoref07_Parts.mono _ _
   | exact LeO.none _
   | refine LeO.ite ?_ ?_
   | refine LeO.bind ?_ (fun _ => ?_)
set_option maxHeartbeats 8000000 in
set_option maxRecDepth 100000 in
theorem octavoref07_Months.calls (k : Nat) (a0 : Int) (a1 : Int) (a2 : Bool) (r1 : Int) (r2 : Bool) (w : World) (h : octavoref07_Months.f k a0 a1 a2 = some (r1, r2)) :
  Calls Tryz.prog 65 #[.int .i64 a0, .int .i64 a1, .bool a2] w fun e w' => e = .returned (.tuple #[.int .i64 r1, .bool r2]) ∧ Drawn0 w w' := by
 have H : ((octavoref07_Parts.f k a0).bind fun bt189 => (if bt189.2.2.2 = true then (if a1 < (-100000) then (octavoref07_Months.j0 k a1 a2 bt189.1 bt189.2.1 bt189.2.2.1 true) else (octavoref07_Months.j0 k a1 a2 bt189.1 bt189.2.1 bt189.2.2.1 (decide (a1 > 100000)))) else (octavoref07_Months.j0 k a1 a2 bt189.1 bt189.2.1 bt189.2.2.1 true))) = some (r1, r2) := h
 clear h
 replace H := Option.bind_eq_some_iff.mp H
 obtain ⟨⟨t189, t190, t191, t192⟩, A40, H⟩ := H
 replace H : (if t192 = true then (if a1 < (-100000) then (octavoref07_Months.j0 k a1 a2 t189 t190 t191 true) else (octavoref07_Months.j0 k a1 a2 t189 t190 t191 (decide (a1 > 100000)))) else (octavoref07_Months.j0 k a1 a2 t189 t190 t191 true)) = some (r1, r2) := H
 have A4 := Aside0.mk A40
 clear A40
 have HC5 := Aside0.mk H
 clear H
 go_enter Tryz.func65, Tryz.ntmps65
 go_upto_region 2 with (first | ((with_reducible refine gate_callee (f := 71) rfl ?_); refine goesL_ (some 15) rfl rfl Tryz.func71 (by kernel_rfl) rfl #[.int .i64 a0] rfl (by (try simp only [List.map_toArray, List.map_cons, List.map_nil]); first | done | rfl | (simp only [List.length_drop, List.length_take]; rfl)) ?_; (with_reducible refine (octavoref07_Parts.calls k a0 t189 t190 t191 t192 _ A4.out).mono ?_); rintro e w' ⟨rfl, ⟨nd, rfl⟩⟩; refine ⟨_, rfl, ?_⟩))
 (try simp only [Act.put, List.setIfInBounds_toArray, List.set_cons_zero, List.set_cons_succ])
 go_cut [29] (fun v29 wc => ∃ (kq : Nat) (x29_4 : Bool), v29 = .bool x29_4 ∧ Aside0 (octavoref07_Months.j0 kq a1 a2 t189 t190 t191 x29_4 = some (r1, r2)) ∧ Aside0 (kq ≤ k) ∧ Drawn0 w wc)
 case first =>
  have H := HC5.out
  clear HC5
  by_cases c6 : t192 = true
  ·subst c6
   have H1 : (if a1 < (-100000) then (octavoref07_Months.j0 k a1 a2 t189 t190 t191 true) else (octavoref07_Months.j0 k a1 a2 t189 t190 t191 (decide (a1 > 100000)))) = some (r1, r2) := by rw [if_pos rfl] at H; exact H
   clear H
   have H := H1
   clear H1
   by_cases c7 : a1 < (-100000)
   ·rw [if_pos c7] at H
    have c7b0 : decide (a1 < (-100000)) = true := decide_eq_true c7
    clear c7
    (first | rw [c7b0] | (simp only [i64_w, i32_w]; rw [c7b0]) | skip)
    have H' := Aside0.mk H
    clear H
    go_wp2
    go_meet
    case rel => exact ⟨_, (true), zrl, H', ⟨by first | omega | exact Nat.le_refl _⟩, zdn⟩
   ·rw [if_neg c7] at H
    have c7b0 : decide (a1 < (-100000)) = false := decide_eq_false c7
    clear c7
    (first | rw [c7b0] | (simp only [i64_w, i32_w]; rw [c7b0]) | skip)
    have H' := Aside0.mk H
    clear H
    go_wp2
    go_meet
    case rel => exact ⟨_, (decide (a1 > 100000)), zrl, H', ⟨by first | omega | exact Nat.le_refl _⟩, zdn⟩
  ·replace c6 := Bool.eq_false_iff.mpr c6
   subst c6
   have H1 : (octavoref07_Months.j0 k a1 a2 t189 t190 t191 true) = some (r1, r2) := by rw [if_neg (show ¬ (false = true) by decide)] at H; exact H
   clear H
   have H := H1
   clear H1
   have H' := Aside0.mk H
   clear H
   go_wp2
   go_meet
   case rel => exact ⟨_, (true), zrl, H', ⟨by first | omega | exact Nat.le_refl _⟩, zdn⟩
 case rest =>
  clear HC5
  try clear p2
  try clear c6
  try clear c7
  try clear c7b0
  obtain ⟨kq, x29_4, rfl, HA, HJ4, ⟨mc4, rfl⟩⟩ := hcut
  cases kq with
  | zero => exact absurd HA.out (by simp [octavoref07_Months.j0])
  | succ kj4 =>
   have H := HA.out
   clear HA
   simp only [octavoref07_Months.j0] at H
   by_cases c8 : x29_4 = true
   ·subst c8
    have H1 : (some (0, false)) = some (r1, r2) := by rw [if_pos rfl] at H; exact H
    clear H
    have H := H1
    clear H1
    simp only [Option.some.injEq, Prod.mk.injEq] at H
    obtain ⟨rfl, rfl⟩ := H
    go_wp2
    go_ret2
    exact ⟨zrl, zdn⟩
   ·replace c8 := Bool.eq_false_iff.mpr c8
    subst c8
    have H1 : (octavoref07_Months.l0 kj4 a2 t189 (wrap64 (t190 + a1)) t191) = some (r1, r2) := by rw [if_neg (show ¬ (false = true) by decide)] at H; exact H
    clear H
    have H := H1
    clear H1
    have H' := Aside0.mk H
    clear H
    go_wp2
    go_loopg [8, 9] kj4 (fun kq v8 v9 w' => ∃ (x8_2 : Int) (x9_2 : Int), v8 = .int .i64 x8_2 ∧ v9 = .int .i64 x9_2 ∧ Aside0 (octavoref07_Months.l0 kq a2 x8_2 x9_2 t191 = some (r1, r2)) ∧ Aside0 (kq ≤ kj4) ∧ Drawn0 w w')
    case atStart => exact ⟨(t189), (wrap64 (t190 + a1)), zrl, zrl, H', ⟨Nat.le_refl _⟩, zdn⟩
    case round =>
     clear H'
     try clear p2
     try clear c4
     try clear c6
     try clear p6
     try clear c7
     try clear c7b0
     try clear c8
     try clear p2
     obtain ⟨x8_2, x9_2, rfl, rfl, HA, HK2, ⟨m2, rfl⟩⟩ := hrel
     cases gk with
     | zero => exact absurd HA.out (by simp [octavoref07_Months.l0])
     | succ k2 =>
      have H := HA.out
      clear HA
      simp only [octavoref07_Months.l0] at H
      by_cases c9 : x9_2 < 1
      ·rw [if_pos c9] at H
       have c9b0 : decide (x9_2 < 1) = true := decide_eq_true c9
       clear c9
       have H' := Aside0.mk H
       clear H
       go_wp2
       go_roundg k2
       case measure => have := HJ4.out; have := HK2.out; omega
       case rel => exact ⟨(wrap64 (x8_2 - 1)), (wrap64 (x9_2 + 12)), zrl, zrl, H', ⟨by have := HJ4.out; have := HK2.out; omega⟩, zdn⟩
      ·rw [if_neg c9] at H
       have c9b0 : decide (x9_2 < 1) = false := decide_eq_false c9
       clear c9
       have H' := Aside0.mk H
       clear H
       go_wp2
       go_loopg [8, 9] k2 (fun kq v8 v9 w' => ∃ (x8_3 : Int) (x9_3 : Int), v8 = .int .i64 x8_3 ∧ v9 = .int .i64 x9_3 ∧ Aside0 (octavoref07_Months.l1 kq a2 x8_3 x9_3 t191 = some (r1, r2)) ∧ Aside0 (kq ≤ k2) ∧ Drawn0 w w')
       case atStart => exact ⟨(x8_2), (x9_2), zrl, zrl, H', ⟨Nat.le_refl _⟩, zdn⟩
       case round =>
        clear H'
        try clear p2
        try clear c4
        try clear c6
        try clear p6
        try clear c7
        try clear c7b0
        try clear c8
        try clear c9
        try clear c9b0
        try clear p2
        try clear p6
        obtain ⟨x8_3, x9_3, rfl, rfl, HA, HK3, ⟨m3, rfl⟩⟩ := hrel
        cases gk with
        | zero => exact absurd HA.out (by simp [octavoref07_Months.l1])
        | succ k3 =>
         have H := HA.out
         clear HA
         simp only [octavoref07_Months.l1] at H
         by_cases c10 : x9_3 > 12
         ·rw [if_pos c10] at H
          have c10b0 : decide (12 < x9_3) = true := decide_eq_true c10
          clear c10
          have H' := Aside0.mk H
          clear H
          go_wp2
          go_roundg k3
          case measure => have := HJ4.out; have := HK2.out; have := HK3.out; omega
          case rel => exact ⟨(wrap64 (x8_3 + 1)), (wrap64 (x9_3 - 12)), zrl, zrl, H', ⟨by have := HJ4.out; have := HK2.out; have := HK3.out; omega⟩, zdn⟩
         ·rw [if_neg c10] at H
          have c10b0 : decide (12 < x9_3) = false := decide_eq_false c10
          clear c10
          replace H := Option.bind_eq_some_iff.mp H
          obtain ⟨t193, A110, H⟩ := H
          replace H : (if a2 = true then ((octavoref07_Day.f k3 x8_3 x9_3 t193).bind fun bt194 => (some (bt194.1, bt194.2))) else (if t191 > t193 then ((octavoref07_Day.f k3 x8_3 x9_3 t193).bind fun bt196 => (some (bt196.1, bt196.2))) else ((octavoref07_Day.f k3 x8_3 x9_3 t191).bind fun bt198 => (some (bt198.1, bt198.2))))) = some (r1, r2) := H
          have A11 := Aside0.mk A110
          clear A110
          by_cases c12 : a2 = true
          ·subst c12
           have H1 : ((octavoref07_Day.f k3 x8_3 x9_3 t193).bind fun bt194 => (some (bt194.1, bt194.2))) = some (r1, r2) := by rw [if_pos rfl] at H; exact H
           clear H
           have H := H1
           clear H1
           replace H := Option.bind_eq_some_iff.mp H
           obtain ⟨⟨t194, t195⟩, A130, H⟩ := H
           replace H : (some (t194, t195)) = some (r1, r2) := H
           have A13 := Aside0.mk A130
           clear A130
           simp only [Option.some.injEq, Prod.mk.injEq] at H
           obtain ⟨rfl, rfl⟩ := H
           go_wp2_with (first | ((with_reducible refine gate_callee (f := 109) rfl ?_); refine goesL_ (some 47) rfl rfl Tryz.func109 (by kernel_rfl) rfl #[.int .i64 x8_3, .int .i64 x9_3] rfl (by (try simp only [List.map_toArray, List.map_cons, List.map_nil]); first | done | rfl | (simp only [List.length_drop, List.length_take]; rfl)) ?_; (with_reducible refine (octavoref07_Last.calls k3 x8_3 x9_3 t193 _ A11.out).mono ?_); rintro e w' ⟨rfl, ⟨nd, rfl⟩⟩; refine ⟨_, rfl, ?_⟩) | ((with_reducible refine gate_callee (f := 68) rfl ?_); refine goesL_ (some 58) rfl rfl Tryz.func68 (by kernel_rfl) rfl #[.int .i64 x8_3, .int .i64 x9_3, .int .i64 t193] rfl (by (try simp only [List.map_toArray, List.map_cons, List.map_nil]); first | done | rfl | (simp only [List.length_drop, List.length_take]; rfl)) ?_; (with_reducible refine (octavoref07_Day.calls k3 x8_3 x9_3 t193 t194 t195 _ A13.out).mono ?_); rintro e w' ⟨rfl, ⟨nd, rfl⟩⟩; refine ⟨_, rfl, ?_⟩))
           go_ret2
           exact ⟨zrl, zdn⟩
          ·replace c12 := Bool.eq_false_iff.mpr c12
           subst c12
           have H1 : (if t191 > t193 then ((octavoref07_Day.f k3 x8_3 x9_3 t193).bind fun bt196 => (some (bt196.1, bt196.2))) else ((octavoref07_Day.f k3 x8_3 x9_3 t191).bind fun bt198 => (some (bt198.1, bt198.2)))) = some (r1, r2) := by rw [if_neg (show ¬ (false = true) by decide)] at H; exact H
           clear H
           have H := H1
           clear H1
           by_cases c14 : t191 > t193
           ·rw [if_pos c14] at H
            have c14b0 : decide (t193 < t191) = true := decide_eq_true c14
            clear c14
            replace H := Option.bind_eq_some_iff.mp H
            obtain ⟨⟨t196, t197⟩, A150, H⟩ := H
            replace H : (some (t196, t197)) = some (r1, r2) := H
            have A15 := Aside0.mk A150
            clear A150
            simp only [Option.some.injEq, Prod.mk.injEq] at H
            obtain ⟨rfl, rfl⟩ := H
            go_wp2_with (first | ((with_reducible refine gate_callee (f := 109) rfl ?_); refine goesL_ (some 47) rfl rfl Tryz.func109 (by kernel_rfl) rfl #[.int .i64 x8_3, .int .i64 x9_3] rfl (by (try simp only [List.map_toArray, List.map_cons, List.map_nil]); first | done | rfl | (simp only [List.length_drop, List.length_take]; rfl)) ?_; (with_reducible refine (octavoref07_Last.calls k3 x8_3 x9_3 t193 _ A11.out).mono ?_); rintro e w' ⟨rfl, ⟨nd, rfl⟩⟩; refine ⟨_, rfl, ?_⟩) | ((with_reducible refine gate_callee (f := 68) rfl ?_); refine goesL_ (some 58) rfl rfl Tryz.func68 (by kernel_rfl) rfl #[.int .i64 x8_3, .int .i64 x9_3, .int .i64 t193] rfl (by (try simp only [List.map_toArray, List.map_cons, List.map_nil]); first | done | rfl | (simp only [List.length_drop, List.length_take]; rfl)) ?_; (with_reducible refine (octavoref07_Day.calls k3 x8_3 x9_3 t193 t196 t197 _ A15.out).mono ?_); rintro e w' ⟨rfl, ⟨nd, rfl⟩⟩; refine ⟨_, rfl, ?_⟩))
            go_ret2
            exact ⟨zrl, zdn⟩
           ·rw [if_neg c14] at H
            have c14b0 : decide (t193 < t191) = false := decide_eq_false c14
            clear c14
            replace H := Option.bind_eq_some_iff.mp H
            obtain ⟨⟨t198, t199⟩, A160, H⟩ := H
            replace H : (some (t198, t199)) = some (r1, r2) := H
            have A16 := Aside0.mk A160
            clear A160
            simp only [Option.some.injEq, Prod.mk.injEq] at H
            obtain ⟨rfl, rfl⟩ := H
            go_wp2_with (first | ((with_reducible refine gate_callee (f := 109) rfl ?_); refine goesL_ (some 47) rfl rfl Tryz.func109 (by kernel_rfl) rfl #[.int .i64 x8_3, .int .i64 x9_3] rfl (by (try simp only [List.map_toArray, List.map_cons, List.map_nil]); first | done | rfl | (simp only [List.length_drop, List.length_take]; rfl)) ?_; (with_reducible refine (octavoref07_Last.calls k3 x8_3 x9_3 t193 _ A11.out).mono ?_); rintro e w' ⟨rfl, ⟨nd, rfl⟩⟩; refine ⟨_, rfl, ?_⟩) | ((with_reducible refine gate_callee (f := 68) rfl ?_); refine goesL_ (some 58) rfl rfl Tryz.func68 (by kernel_rfl) rfl #[.int .i64 x8_3, .int .i64 x9_3, .int .i64 t191] rfl (by (try simp only [List.map_toArray, List.map_cons, List.map_nil]); first | done | rfl | (simp only [List.length_drop, List.length_take]; rfl)) ?_; (with_reducible refine (octavoref07_Day.calls k3 x8_3 x9_3 t191 t198 t199 _ A16.out).mono ?_); rintro e w' ⟨rfl, ⟨nd, rfl⟩⟩; refine ⟨_, rfl, ?_⟩))
            go_ret2
            exact ⟨zrl, zdn⟩
end Go.Proofs.YtllceoncpgebpaaGreatDoor.P
