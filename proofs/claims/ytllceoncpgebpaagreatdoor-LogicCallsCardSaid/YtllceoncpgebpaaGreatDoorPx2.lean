-- Written by a program of this session (wip/tools/xprint.py), out of the seat's translation. Not trusted: Lean checks it.
import Derived.Test.YtllceoncpgebpaaGreatDoorPx0
import Derived.Test.YtllceoncpgebpaaGreatDoorPx1
namespace Go.Proofs.YtllceoncpgebpaaGreatDoor.P
open Go.RowKit Go.Proofs.YtllceoncpgebpaaGreatDoorW.PrintWords Go.Proofs.YtllceoncpgebpaaGreatDoorW.PrintLast Go.Proofs.YtllceoncpgebpaaGreatDoorW.PrintMore
attribute [local go_sem] max2_int min2_int max_two min_two max_three min_three max_four min_four X.binOp_str_gtr X.binOp_str_leq
set_option linter.unusedVariables false
set_option linter.unusedSimpArgs false
mutual
def date_Parts.l0 : Nat → Int → Int → Int → Option (Int × Int × Int × Bool)
 | 0, _, _, _ => none
 | k + 1, x0, x6, x7 => (date_Day.f k (wrap64 (x6 + 1)) 1 1).bind fun bt109 => (if bt109.2 = true then (if x0 < bt109.1 then ((date_Day.f k x6 1 1).bind fun bt111 => (date_Parts.l1 k x6 x7 (wrap64 ((wrap64 (x0 - bt111.1)) + 1)))) else (date_Parts.l0 k x0 (wrap64 (x6 + 1)) x7)) else ((date_Day.f k x6 1 1).bind fun bt115 => (date_Parts.l1 k x6 x7 (wrap64 ((wrap64 (x0 - bt115.1)) + 1)))))
def date_Parts.l1 : Nat → Int → Int → Int → Option (Int × Int × Int × Bool)
 | 0, _, _, _ => none
 | k + 1, x6, x7, x12 => (date_Last.f k x6 x7).bind fun t113 => (if x12 > t113 then ((date_Last.f k x6 x7).bind fun t114 => (date_Parts.l1 k x6 (wrap64 (x7 + 1)) (wrap64 (x12 - t114)))) else (some (x6, x7, x12, true)))
end
def date_Parts.f (k : Nat) (a0 : Int) : Option (Int × Int × Int × Bool) := (date_good.f a0).bind fun t108 => (if t108 = true then (date_Parts.l0 k a0 (wrap64 (1900 + (wrap64 (Int.tdiv a0 366)))) 1) else (some (0, 0, 0, false)))
theorem date_Parts.mono_l : ∀ k, (∀ y0 y1 y2, LeO (date_Parts.l0 k y0 y1 y2) (date_Parts.l0 (k + 1) y0 y1 y2)) ∧ (∀ y0 y1 y2, LeO (date_Parts.l1 k y0 y1 y2) (date_Parts.l1 (k + 1) y0 y1 y2))
 | 0 => ⟨fun _ _ _ r h => by simp [date_Parts.l0] at h, fun _ _ _ r h => by simp [date_Parts.l1] at h⟩
 | k + 1 => by
  obtain ⟨ih0, ih1⟩ := date_Parts.mono_l k
  refine ⟨?_, ?_⟩
  ·intro y0 y1 y2
   unfold date_Parts.l0
   repeat' first
   | (with_reducible exact ih0 _ _ _)
   | (with_reducible exact ih1 _ _ _)
   | (with_reducible exact date_Day.mono _ _ _ _)
   | (with_reducible exact date_Last.mono _ _ _)
   | (with_reducible exact LeO.refl _)
   | (with_reducible exact LeO.none _)
   | (with_reducible refine LeO.ite ?_ ?_)
   | (with_reducible refine LeO.bind ?_ (fun _ => ?_))
   | exact ih0 _ _ _
   | exact ih1 _ _ _
   | exact date_Day.mono _ _ _ _
   | exact date_Last.mono _ _ _
   | exact LeO.none _
   | refine LeO.ite ?_ ?_
   | refine LeO.bind ?_ (fun _ => ?_)
  ·intro y0 y1 y2
   unfold date_Parts.l1
   repeat' first
   | (with_reducible exact ih0 _ _ _)
   | (with_reducible exact ih1 _ _ _)
   | (with_reducible exact date_Day.mono _ _ _ _)
   | (with_reducible exact date_Last.mono _ _ _)
   | (with_reducible exact LeO.refl _)
   | (with_reducible exact LeO.none _)
   | (with_reducible refine LeO.ite ?_ ?_)
   | (with_reducible refine LeO.bind ?_ (fun _ => ?_))
   | exact ih0 _ _ _
   | exact ih1 _ _ _
   | exact date_Day.mono _ _ _ _
   | exact date_Last.mono _ _ _
   | exact LeO.none _
   | refine LeO.ite ?_ ?_
   | refine LeO.bind ?_ (fun _ => ?_)
theorem date_Parts.mono : ∀ a0 k, LeO (date_Parts.f k a0) (date_Parts.f (k + 1) a0) := by
 intro a0 k
 obtain ⟨ih0, ih1⟩ := date_Parts.mono_l k
 unfold date_Parts.f
 repeat' first
   | (with_reducible exact ih0 _ _ _)
   | (with_reducible exact ih1 _ _ _)
   | (with_reducible exact date_Day.mono _ _ _ _)
   | (with_reducible exact date_Last.mono _ _ _)
   | (with_reducible exact LeO.refl _)
   | (with_reducible exact LeO.none _)
   | (with_reducible refine LeO.ite ?_ ?_)
   | (with_reducible refine LeO.bind ?_ (fun _ => ?_))
   | exact ih0 _ _ _
   | exact ih1 _ _ _
   | exact date_Day.mono _ _ _ _
   | exact date_Last.mono _ _ _
   | exact LeO.none _
   | refine LeO.ite ?_ ?_
   | refine LeO.bind ?_ (fun _ => ?_)
set_option maxHeartbeats 8000000 in
set_option maxRecDepth 100000 in
theorem date_Parts.calls (k : Nat) (a0 : Int) (r1 : Int) (r2 : Int) (r3 : Int) (r4 : Bool) (w : World) (h : date_Parts.f k a0 = some (r1, r2, r3, r4)) :
  Calls Tryz.prog 121 #[.int .i64 a0] w fun e w' => e = .returned (.tuple #[.int .i64 r1, .int .i64 r2, .int .i64 r3, .bool r4]) ∧ Drawn0 w w' := by
 have H : ((date_good.f a0).bind fun t108 => (if t108 = true then (date_Parts.l0 k a0 (wrap64 (1900 + (wrap64 (Int.tdiv a0 366)))) 1) else (some (0, 0, 0, false)))) = some (r1, r2, r3, r4) := h
 clear h
 replace H := Option.bind_eq_some_iff.mp H
 obtain ⟨t108, A20, H⟩ := H
 replace H : (if t108 = true then (date_Parts.l0 k a0 (wrap64 (1900 + (wrap64 (Int.tdiv a0 366)))) 1) else (some (0, 0, 0, false))) = some (r1, r2, r3, r4) := H
 have A2 := Aside0.mk A20
 clear A20
 by_cases c3 : t108 = true
 ·subst c3
  have H1 : (date_Parts.l0 k a0 (wrap64 (1900 + (wrap64 (Int.tdiv a0 366)))) 1) = some (r1, r2, r3, r4) := by rw [if_pos rfl] at H; exact H
  clear H
  have H := H1
  clear H1
  have H' := Aside0.mk H
  clear H
  go_enter Tryz.func121, Tryz.ntmps121
  go_wp2_with (first | ((with_reducible refine gate_callee (f := 85) rfl ?_); refine goesL_ (some 14) rfl rfl Tryz.func85 (by kernel_rfl) rfl #[.int .i64 a0] rfl (by (try simp only [List.map_toArray, List.map_cons, List.map_nil]); first | done | rfl | (simp only [List.length_drop, List.length_take]; rfl)) ?_; (with_reducible refine (date_good.calls a0 true _ A2.out).mono ?_); rintro e w' ⟨rfl, ⟨nd, rfl⟩⟩; refine ⟨_, rfl, ?_⟩))
  repeat (go_step3; go_wp2_with (first | ((with_reducible refine gate_callee (f := 85) rfl ?_); refine goesL_ (some 14) rfl rfl Tryz.func85 (by kernel_rfl) rfl #[.int .i64 a0] rfl (by (try simp only [List.map_toArray, List.map_cons, List.map_nil]); first | done | rfl | (simp only [List.length_drop, List.length_take]; rfl)) ?_; (with_reducible refine (date_good.calls a0 true _ A2.out).mono ?_); rintro e w' ⟨rfl, ⟨nd, rfl⟩⟩; refine ⟨_, rfl, ?_⟩)))
  go_loopg [6] k (fun kq v6 w' => ∃ (x6_1 : Int), v6 = .int .i64 x6_1 ∧ Aside0 (date_Parts.l0 kq a0 x6_1 1 = some (r1, r2, r3, r4)) ∧ Aside0 (kq ≤ k) ∧ Drawn0 w w')
  case atStart => exact ⟨(wrap64 (1900 + (wrap64 (Int.tdiv a0 366)))), zrl, H', ⟨Nat.le_refl _⟩, zdn⟩
  case round =>
   clear H'
   try clear c1
   try clear p2
   try clear c3
   obtain ⟨x6_1, rfl, HA, HK1, ⟨m1, rfl⟩⟩ := hrel
   cases gk with
   | zero => exact absurd HA.out (by simp [date_Parts.l0])
   | succ k1 =>
    have H := HA.out
    clear HA
    simp only [date_Parts.l0] at H
    replace H := Option.bind_eq_some_iff.mp H
    obtain ⟨⟨t109, t110⟩, A40, H⟩ := H
    replace H : (if t110 = true then (if a0 < t109 then ((date_Day.f k1 x6_1 1 1).bind fun bt111 => (date_Parts.l1 k1 x6_1 1 (wrap64 ((wrap64 (a0 - bt111.1)) + 1)))) else (date_Parts.l0 k1 a0 (wrap64 (x6_1 + 1)) 1)) else ((date_Day.f k1 x6_1 1 1).bind fun bt115 => (date_Parts.l1 k1 x6_1 1 (wrap64 ((wrap64 (a0 - bt115.1)) + 1))))) = some (r1, r2, r3, r4) := H
    have A4 := Aside0.mk A40
    clear A40
    by_cases c5 : t110 = true
    ·subst c5
     have H1 : (if a0 < t109 then ((date_Day.f k1 x6_1 1 1).bind fun bt111 => (date_Parts.l1 k1 x6_1 1 (wrap64 ((wrap64 (a0 - bt111.1)) + 1)))) else (date_Parts.l0 k1 a0 (wrap64 (x6_1 + 1)) 1)) = some (r1, r2, r3, r4) := by rw [if_pos rfl] at H; exact H
     clear H
     have H := H1
     clear H1
     by_cases c6 : a0 < t109
     ·rw [if_pos c6] at H
      have c6b0 : decide (a0 < t109) = true := decide_eq_true c6
      clear c6
      replace H := Option.bind_eq_some_iff.mp H
      obtain ⟨⟨t111, t112⟩, A70, H⟩ := H
      replace H : (date_Parts.l1 k1 x6_1 1 (wrap64 ((wrap64 (a0 - t111)) + 1))) = some (r1, r2, r3, r4) := H
      have A7 := Aside0.mk A70
      clear A70
      have H' := Aside0.mk H
      clear H
      go_wp2_with (first | ((with_reducible refine gate_callee (f := 84) rfl ?_); refine goesL_ (some 22) rfl rfl Tryz.func84 (by kernel_rfl) rfl #[.int .i64 (wrap64 (x6_1 + 1)), .int .i64 1, .int .i64 1] rfl (by (try simp only [List.map_toArray, List.map_cons, List.map_nil]); first | done | rfl | (simp only [List.length_drop, List.length_take]; rfl)) ?_; (with_reducible refine (date_Day.calls k1 (wrap64 (x6_1 + 1)) 1 1 t109 true _ A4.out).mono ?_); rintro e w' ⟨rfl, ⟨nd, rfl⟩⟩; refine ⟨_, rfl, ?_⟩) | ((with_reducible refine gate_callee (f := 84) rfl ?_); refine goesL_ (some 37) rfl rfl Tryz.func84 (by kernel_rfl) rfl #[.int .i64 x6_1, .int .i64 1, .int .i64 1] rfl (by (try simp only [List.map_toArray, List.map_cons, List.map_nil]); first | done | rfl | (simp only [List.length_drop, List.length_take]; rfl)) ?_; (with_reducible refine (date_Day.calls k1 x6_1 1 1 t111 t112 _ A7.out).mono ?_); rintro e w' ⟨rfl, ⟨nd, rfl⟩⟩; refine ⟨_, rfl, ?_⟩))
      repeat (go_step3; go_wp2_with (first | ((with_reducible refine gate_callee (f := 84) rfl ?_); refine goesL_ (some 22) rfl rfl Tryz.func84 (by kernel_rfl) rfl #[.int .i64 (wrap64 (x6_1 + 1)), .int .i64 1, .int .i64 1] rfl (by (try simp only [List.map_toArray, List.map_cons, List.map_nil]); first | done | rfl | (simp only [List.length_drop, List.length_take]; rfl)) ?_; (with_reducible refine (date_Day.calls k1 (wrap64 (x6_1 + 1)) 1 1 t109 true _ A4.out).mono ?_); rintro e w' ⟨rfl, ⟨nd, rfl⟩⟩; refine ⟨_, rfl, ?_⟩) | ((with_reducible refine gate_callee (f := 84) rfl ?_); refine goesL_ (some 37) rfl rfl Tryz.func84 (by kernel_rfl) rfl #[.int .i64 x6_1, .int .i64 1, .int .i64 1] rfl (by (try simp only [List.map_toArray, List.map_cons, List.map_nil]); first | done | rfl | (simp only [List.length_drop, List.length_take]; rfl)) ?_; (with_reducible refine (date_Day.calls k1 x6_1 1 1 t111 t112 _ A7.out).mono ?_); rintro e w' ⟨rfl, ⟨nd, rfl⟩⟩; refine ⟨_, rfl, ?_⟩)))
      go_loopg [7, 12] k1 (fun kq v7 v12 w' => ∃ (x7_2 : Int) (x12_2 : Int), v7 = .int .i64 x7_2 ∧ v12 = .int .i64 x12_2 ∧ Aside0 (date_Parts.l1 kq x6_1 x7_2 x12_2 = some (r1, r2, r3, r4)) ∧ Aside0 (kq ≤ k1) ∧ Drawn0 w w')
      case atStart => exact ⟨(1), (wrap64 ((wrap64 (a0 - t111)) + 1)), zrl, zrl, H', ⟨Nat.le_refl _⟩, zdn⟩
      case round =>
       clear H'
       try clear c1
       try clear p2
       try clear c3
       try clear c5
       try clear c6
       try clear c6b0
       try clear p6
       try clear p2
       obtain ⟨x7_2, x12_2, rfl, rfl, HA, HK2, ⟨m2, rfl⟩⟩ := hrel
       cases gk with
       | zero => exact absurd HA.out (by simp [date_Parts.l1])
       | succ k2 =>
        have H := HA.out
        clear HA
        simp only [date_Parts.l1] at H
        replace H := Option.bind_eq_some_iff.mp H
        obtain ⟨t113, A80, H⟩ := H
        replace H : (if x12_2 > t113 then ((date_Last.f k2 x6_1 x7_2).bind fun t114 => (date_Parts.l1 k2 x6_1 (wrap64 (x7_2 + 1)) (wrap64 (x12_2 - t114)))) else (some (x6_1, x7_2, x12_2, true))) = some (r1, r2, r3, r4) := H
        have A8 := Aside0.mk A80
        clear A80
        by_cases c9 : x12_2 > t113
        ·rw [if_pos c9] at H
         have c9b0 : decide (t113 < x12_2) = true := decide_eq_true c9
         clear c9
         replace H := Option.bind_eq_some_iff.mp H
         obtain ⟨t114, A100, H⟩ := H
         replace H : (date_Parts.l1 k2 x6_1 (wrap64 (x7_2 + 1)) (wrap64 (x12_2 - t114))) = some (r1, r2, r3, r4) := H
         have A10 := Aside0.mk A100
         clear A100
         have H' := Aside0.mk H
         clear H
         go_wp2_with (first | ((with_reducible refine gate_callee (f := 119) rfl ?_); refine goesL_ (some 47) rfl rfl Tryz.func119 (by kernel_rfl) rfl #[.int .i64 x6_1, .int .i64 x7_2] rfl (by (try simp only [List.map_toArray, List.map_cons, List.map_nil]); first | done | rfl | (simp only [List.length_drop, List.length_take]; rfl)) ?_; (with_reducible refine (date_Last.calls k2 x6_1 x7_2 t113 _ A8.out).mono ?_); rintro e w' ⟨rfl, ⟨nd, rfl⟩⟩; refine ⟨_, rfl, ?_⟩) | ((with_reducible refine gate_callee (f := 119) rfl ?_); refine goesL_ (some 52) rfl rfl Tryz.func119 (by kernel_rfl) rfl #[.int .i64 x6_1, .int .i64 x7_2] rfl (by (try simp only [List.map_toArray, List.map_cons, List.map_nil]); first | done | rfl | (simp only [List.length_drop, List.length_take]; rfl)) ?_; (with_reducible refine (date_Last.calls k2 x6_1 x7_2 t114 _ A10.out).mono ?_); rintro e w' ⟨rfl, ⟨nd, rfl⟩⟩; refine ⟨_, rfl, ?_⟩))
         repeat (go_step3; go_wp2_with (first | ((with_reducible refine gate_callee (f := 119) rfl ?_); refine goesL_ (some 47) rfl rfl Tryz.func119 (by kernel_rfl) rfl #[.int .i64 x6_1, .int .i64 x7_2] rfl (by (try simp only [List.map_toArray, List.map_cons, List.map_nil]); first | done | rfl | (simp only [List.length_drop, List.length_take]; rfl)) ?_; (with_reducible refine (date_Last.calls k2 x6_1 x7_2 t113 _ A8.out).mono ?_); rintro e w' ⟨rfl, ⟨nd, rfl⟩⟩; refine ⟨_, rfl, ?_⟩) | ((with_reducible refine gate_callee (f := 119) rfl ?_); refine goesL_ (some 52) rfl rfl Tryz.func119 (by kernel_rfl) rfl #[.int .i64 x6_1, .int .i64 x7_2] rfl (by (try simp only [List.map_toArray, List.map_cons, List.map_nil]); first | done | rfl | (simp only [List.length_drop, List.length_take]; rfl)) ?_; (with_reducible refine (date_Last.calls k2 x6_1 x7_2 t114 _ A10.out).mono ?_); rintro e w' ⟨rfl, ⟨nd, rfl⟩⟩; refine ⟨_, rfl, ?_⟩)))
         go_roundg k2
         case measure => have := HK1.out; have := HK2.out; omega
         case rel => exact ⟨(wrap64 (x7_2 + 1)), (wrap64 (x12_2 - t114)), zrl, zrl, H', ⟨by have := HK1.out; have := HK2.out; omega⟩, zdn⟩
        ·rw [if_neg c9] at H
         have c9b0 : decide (t113 < x12_2) = false := decide_eq_false c9
         clear c9
         simp only [Option.some.injEq, Prod.mk.injEq] at H
         obtain ⟨rfl, rfl, rfl, rfl⟩ := H
         go_wp2_with (first | ((with_reducible refine gate_callee (f := 119) rfl ?_); refine goesL_ (some 47) rfl rfl Tryz.func119 (by kernel_rfl) rfl #[.int .i64 x6_1, .int .i64 x7_2] rfl (by (try simp only [List.map_toArray, List.map_cons, List.map_nil]); first | done | rfl | (simp only [List.length_drop, List.length_take]; rfl)) ?_; (with_reducible refine (date_Last.calls k2 x6_1 x7_2 t113 _ A8.out).mono ?_); rintro e w' ⟨rfl, ⟨nd, rfl⟩⟩; refine ⟨_, rfl, ?_⟩))
         repeat (go_step3; go_wp2_with (first | ((with_reducible refine gate_callee (f := 119) rfl ?_); refine goesL_ (some 47) rfl rfl Tryz.func119 (by kernel_rfl) rfl #[.int .i64 x6_1, .int .i64 x7_2] rfl (by (try simp only [List.map_toArray, List.map_cons, List.map_nil]); first | done | rfl | (simp only [List.length_drop, List.length_take]; rfl)) ?_; (with_reducible refine (date_Last.calls k2 x6_1 x7_2 t113 _ A8.out).mono ?_); rintro e w' ⟨rfl, ⟨nd, rfl⟩⟩; refine ⟨_, rfl, ?_⟩)))
         (try rw [Exit.noGoto_ret])
         refine bodyPost_ret (results_list (rs := [.tmp 2, .tmp 3, .tmp 4, .tmp 5]) rfl (by simp) (.tmp (.tmp (.tmp (.tmp .nil))))) rfl ?_
         exact ⟨zrl, zdn⟩
     ·rw [if_neg c6] at H
      have c6b0 : decide (a0 < t109) = false := decide_eq_false c6
      clear c6
      have H' := Aside0.mk H
      clear H
      go_wp2_with (first | ((with_reducible refine gate_callee (f := 84) rfl ?_); refine goesL_ (some 22) rfl rfl Tryz.func84 (by kernel_rfl) rfl #[.int .i64 (wrap64 (x6_1 + 1)), .int .i64 1, .int .i64 1] rfl (by (try simp only [List.map_toArray, List.map_cons, List.map_nil]); first | done | rfl | (simp only [List.length_drop, List.length_take]; rfl)) ?_; (with_reducible refine (date_Day.calls k1 (wrap64 (x6_1 + 1)) 1 1 t109 true _ A4.out).mono ?_); rintro e w' ⟨rfl, ⟨nd, rfl⟩⟩; refine ⟨_, rfl, ?_⟩))
      repeat (go_step3; go_wp2_with (first | ((with_reducible refine gate_callee (f := 84) rfl ?_); refine goesL_ (some 22) rfl rfl Tryz.func84 (by kernel_rfl) rfl #[.int .i64 (wrap64 (x6_1 + 1)), .int .i64 1, .int .i64 1] rfl (by (try simp only [List.map_toArray, List.map_cons, List.map_nil]); first | done | rfl | (simp only [List.length_drop, List.length_take]; rfl)) ?_; (with_reducible refine (date_Day.calls k1 (wrap64 (x6_1 + 1)) 1 1 t109 true _ A4.out).mono ?_); rintro e w' ⟨rfl, ⟨nd, rfl⟩⟩; refine ⟨_, rfl, ?_⟩)))
      go_roundg k1
      case measure => have := HK1.out; omega
      case rel => exact ⟨(wrap64 (x6_1 + 1)), zrl, H', ⟨by have := HK1.out; omega⟩, zdn⟩
    ·replace c5 := Bool.eq_false_iff.mpr c5
     subst c5
     have H1 : ((date_Day.f k1 x6_1 1 1).bind fun bt115 => (date_Parts.l1 k1 x6_1 1 (wrap64 ((wrap64 (a0 - bt115.1)) + 1)))) = some (r1, r2, r3, r4) := by rw [if_neg (show ¬ (false = true) by decide)] at H; exact H
     clear H
     have H := H1
     clear H1
     replace H := Option.bind_eq_some_iff.mp H
     obtain ⟨⟨t115, t116⟩, A110, H⟩ := H
     replace H : (date_Parts.l1 k1 x6_1 1 (wrap64 ((wrap64 (a0 - t115)) + 1))) = some (r1, r2, r3, r4) := H
     have A11 := Aside0.mk A110
     clear A110
     have H' := Aside0.mk H
     clear H
     go_wp2_with (first | ((with_reducible refine gate_callee (f := 84) rfl ?_); refine goesL_ (some 22) rfl rfl Tryz.func84 (by kernel_rfl) rfl #[.int .i64 (wrap64 (x6_1 + 1)), .int .i64 1, .int .i64 1] rfl (by (try simp only [List.map_toArray, List.map_cons, List.map_nil]); first | done | rfl | (simp only [List.length_drop, List.length_take]; rfl)) ?_; (with_reducible refine (date_Day.calls k1 (wrap64 (x6_1 + 1)) 1 1 t109 false _ A4.out).mono ?_); rintro e w' ⟨rfl, ⟨nd, rfl⟩⟩; refine ⟨_, rfl, ?_⟩) | ((with_reducible refine gate_callee (f := 84) rfl ?_); refine goesL_ (some 37) rfl rfl Tryz.func84 (by kernel_rfl) rfl #[.int .i64 x6_1, .int .i64 1, .int .i64 1] rfl (by (try simp only [List.map_toArray, List.map_cons, List.map_nil]); first | done | rfl | (simp only [List.length_drop, List.length_take]; rfl)) ?_; (with_reducible refine (date_Day.calls k1 x6_1 1 1 t115 t116 _ A11.out).mono ?_); rintro e w' ⟨rfl, ⟨nd, rfl⟩⟩; refine ⟨_, rfl, ?_⟩))
     repeat (go_step3; go_wp2_with (first | ((with_reducible refine gate_callee (f := 84) rfl ?_); refine goesL_ (some 22) rfl rfl Tryz.func84 (by kernel_rfl) rfl #[.int .i64 (wrap64 (x6_1 + 1)), .int .i64 1, .int .i64 1] rfl (by (try simp only [List.map_toArray, List.map_cons, List.map_nil]); first | done | rfl | (simp only [List.length_drop, List.length_take]; rfl)) ?_; (with_reducible refine (date_Day.calls k1 (wrap64 (x6_1 + 1)) 1 1 t109 false _ A4.out).mono ?_); rintro e w' ⟨rfl, ⟨nd, rfl⟩⟩; refine ⟨_, rfl, ?_⟩) | ((with_reducible refine gate_callee (f := 84) rfl ?_); refine goesL_ (some 37) rfl rfl Tryz.func84 (by kernel_rfl) rfl #[.int .i64 x6_1, .int .i64 1, .int .i64 1] rfl (by (try simp only [List.map_toArray, List.map_cons, List.map_nil]); first | done | rfl | (simp only [List.length_drop, List.length_take]; rfl)) ?_; (with_reducible refine (date_Day.calls k1 x6_1 1 1 t115 t116 _ A11.out).mono ?_); rintro e w' ⟨rfl, ⟨nd, rfl⟩⟩; refine ⟨_, rfl, ?_⟩)))
     go_loopg [7, 12] k1 (fun kq v7 v12 w' => ∃ (x7_2 : Int) (x12_2 : Int), v7 = .int .i64 x7_2 ∧ v12 = .int .i64 x12_2 ∧ Aside0 (date_Parts.l1 kq x6_1 x7_2 x12_2 = some (r1, r2, r3, r4)) ∧ Aside0 (kq ≤ k1) ∧ Drawn0 w w')
     case atStart => exact ⟨(1), (wrap64 ((wrap64 (a0 - t115)) + 1)), zrl, zrl, H', ⟨Nat.le_refl _⟩, zdn⟩
     case round =>
      clear H'
      try clear c1
      try clear p2
      try clear c3
      try clear c5
      try clear c6
      try clear c6b0
      try clear p6
      try clear c8
      try clear c9
      try clear c9b0
      try clear c11
      try clear p2
      try clear p6
      obtain ⟨x7_2, x12_2, rfl, rfl, HA, HK2, ⟨m2, rfl⟩⟩ := hrel
      cases gk with
      | zero => exact absurd HA.out (by simp [date_Parts.l1])
      | succ k2 =>
       have H := HA.out
       clear HA
       simp only [date_Parts.l1] at H
       replace H := Option.bind_eq_some_iff.mp H
       obtain ⟨t113, A120, H⟩ := H
       replace H : (if x12_2 > t113 then ((date_Last.f k2 x6_1 x7_2).bind fun t114 => (date_Parts.l1 k2 x6_1 (wrap64 (x7_2 + 1)) (wrap64 (x12_2 - t114)))) else (some (x6_1, x7_2, x12_2, true))) = some (r1, r2, r3, r4) := H
       have A12 := Aside0.mk A120
       clear A120
       by_cases c13 : x12_2 > t113
       ·rw [if_pos c13] at H
        have c13b0 : decide (t113 < x12_2) = true := decide_eq_true c13
        clear c13
        replace H := Option.bind_eq_some_iff.mp H
        obtain ⟨t114, A140, H⟩ := H
        replace H : (date_Parts.l1 k2 x6_1 (wrap64 (x7_2 + 1)) (wrap64 (x12_2 - t114))) = some (r1, r2, r3, r4) := H
        have A14 := Aside0.mk A140
        clear A140
        have H' := Aside0.mk H
        clear H
        go_wp2_with (first | ((with_reducible refine gate_callee (f := 119) rfl ?_); refine goesL_ (some 47) rfl rfl Tryz.func119 (by kernel_rfl) rfl #[.int .i64 x6_1, .int .i64 x7_2] rfl (by (try simp only [List.map_toArray, List.map_cons, List.map_nil]); first | done | rfl | (simp only [List.length_drop, List.length_take]; rfl)) ?_; (with_reducible refine (date_Last.calls k2 x6_1 x7_2 t113 _ A12.out).mono ?_); rintro e w' ⟨rfl, ⟨nd, rfl⟩⟩; refine ⟨_, rfl, ?_⟩) | ((with_reducible refine gate_callee (f := 119) rfl ?_); refine goesL_ (some 52) rfl rfl Tryz.func119 (by kernel_rfl) rfl #[.int .i64 x6_1, .int .i64 x7_2] rfl (by (try simp only [List.map_toArray, List.map_cons, List.map_nil]); first | done | rfl | (simp only [List.length_drop, List.length_take]; rfl)) ?_; (with_reducible refine (date_Last.calls k2 x6_1 x7_2 t114 _ A14.out).mono ?_); rintro e w' ⟨rfl, ⟨nd, rfl⟩⟩; refine ⟨_, rfl, ?_⟩))
        repeat (go_step3; go_wp2_with (first | ((with_reducible refine gate_callee (f := 119) rfl ?_); refine goesL_ (some 47) rfl rfl Tryz.func119 (by kernel_rfl) rfl #[.int .i64 x6_1, .int .i64 x7_2] rfl (by (try simp only [List.map_toArray, List.map_cons, List.map_nil]); first | done | rfl | (simp only [List.length_drop, List.length_take]; rfl)) ?_; (with_reducible refine (date_Last.calls k2 x6_1 x7_2 t113 _ A12.out).mono ?_); rintro e w' ⟨rfl, ⟨nd, rfl⟩⟩; refine ⟨_, rfl, ?_⟩) | ((with_reducible refine gate_callee (f := 119) rfl ?_); refine goesL_ (some 52) rfl rfl Tryz.func119 (by kernel_rfl) rfl #[.int .i64 x6_1, .int .i64 x7_2] rfl (by (try simp only [List.map_toArray, List.map_cons, List.map_nil]); first | done | rfl | (simp only [List.length_drop, List.length_take]; rfl)) ?_; (with_reducible refine (date_Last.calls k2 x6_1 x7_2 t114 _ A14.out).mono ?_); rintro e w' ⟨rfl, ⟨nd, rfl⟩⟩; refine ⟨_, rfl, ?_⟩)))
        go_roundg k2
        case measure => have := HK1.out; have := HK2.out; omega
        case rel => exact ⟨(wrap64 (x7_2 + 1)), (wrap64 (x12_2 - t114)), zrl, zrl, H', ⟨by have := HK1.out; have := HK2.out; omega⟩, zdn⟩
       ·rw [if_neg c13] at H
        have c13b0 : decide (t113 < x12_2) = false := decide_eq_false c13
        clear c13
        simp only [Option.some.injEq, Prod.mk.injEq] at H
        obtain ⟨rfl, rfl, rfl, rfl⟩ := H
        go_wp2_with (first | ((with_reducible refine gate_callee (f := 119) rfl ?_); refine goesL_ (some 47) rfl rfl Tryz.func119 (by kernel_rfl) rfl #[.int .i64 x6_1, .int .i64 x7_2] rfl (by (try simp only [List.map_toArray, List.map_cons, List.map_nil]); first | done | rfl | (simp only [List.length_drop, List.length_take]; rfl)) ?_; (with_reducible refine (date_Last.calls k2 x6_1 x7_2 t113 _ A12.out).mono ?_); rintro e w' ⟨rfl, ⟨nd, rfl⟩⟩; refine ⟨_, rfl, ?_⟩))
        repeat (go_step3; go_wp2_with (first | ((with_reducible refine gate_callee (f := 119) rfl ?_); refine goesL_ (some 47) rfl rfl Tryz.func119 (by kernel_rfl) rfl #[.int .i64 x6_1, .int .i64 x7_2] rfl (by (try simp only [List.map_toArray, List.map_cons, List.map_nil]); first | done | rfl | (simp only [List.length_drop, List.length_take]; rfl)) ?_; (with_reducible refine (date_Last.calls k2 x6_1 x7_2 t113 _ A12.out).mono ?_); rintro e w' ⟨rfl, ⟨nd, rfl⟩⟩; refine ⟨_, rfl, ?_⟩)))
        (try rw [Exit.noGoto_ret])
        refine bodyPost_ret (results_list (rs := [.tmp 2, .tmp 3, .tmp 4, .tmp 5]) rfl (by simp) (.tmp (.tmp (.tmp (.tmp .nil))))) rfl ?_
        exact ⟨zrl, zdn⟩
 ·replace c3 := Bool.eq_false_iff.mpr c3
  subst c3
  have H1 : (some (0, 0, 0, false)) = some (r1, r2, r3, r4) := by rw [if_neg (show ¬ (false = true) by decide)] at H; exact H
  clear H
  have H := H1
  clear H1
  simp only [Option.some.injEq, Prod.mk.injEq] at H
  obtain ⟨rfl, rfl, rfl, rfl⟩ := H
  go_enter Tryz.func121, Tryz.ntmps121
  go_wp2_with (first | ((with_reducible refine gate_callee (f := 85) rfl ?_); refine goesL_ (some 14) rfl rfl Tryz.func85 (by kernel_rfl) rfl #[.int .i64 a0] rfl (by (try simp only [List.map_toArray, List.map_cons, List.map_nil]); first | done | rfl | (simp only [List.length_drop, List.length_take]; rfl)) ?_; (with_reducible refine (date_good.calls a0 false _ A2.out).mono ?_); rintro e w' ⟨rfl, ⟨nd, rfl⟩⟩; refine ⟨_, rfl, ?_⟩))
  repeat (go_step3; go_wp2_with (first | ((with_reducible refine gate_callee (f := 85) rfl ?_); refine goesL_ (some 14) rfl rfl Tryz.func85 (by kernel_rfl) rfl #[.int .i64 a0] rfl (by (try simp only [List.map_toArray, List.map_cons, List.map_nil]); first | done | rfl | (simp only [List.length_drop, List.length_take]; rfl)) ?_; (with_reducible refine (date_good.calls a0 false _ A2.out).mono ?_); rintro e w' ⟨rfl, ⟨nd, rfl⟩⟩; refine ⟨_, rfl, ?_⟩)))
  (try rw [Exit.noGoto_ret])
  refine bodyPost_ret (results_list (rs := [.tmp 2, .tmp 3, .tmp 4, .tmp 5]) rfl (by simp) (.tmp (.tmp (.tmp (.tmp .nil))))) rfl ?_
  exact ⟨zrl, zdn⟩
def date_Months.j0 : Nat → Int → Bool → Int → Int → Int → Bool → Option (Int × Bool)
 | 0, _, _, _, _, _, _ => none
 | k + 1, x1, x2, x8, x9, x10, x29 => if x29 = true then (some (0, false)) else ((date_carried.f x8 (wrap64 (x9 + x1))).bind fun bt121 => ((date_Last.f k bt121.1 bt121.2).bind fun t123 => (if x2 = true then ((date_Day.f k bt121.1 bt121.2 t123).bind fun bt124 => (some (bt124.1, bt124.2))) else ((date_Day.f k bt121.1 bt121.2 (mn x10 t123)).bind fun bt126 => (some (bt126.1, bt126.2))))))
def date_Months.f (k : Nat) (a0 : Int) (a1 : Int) (a2 : Bool) : Option (Int × Bool) := (date_Parts.f k a0).bind fun bt117 => (if bt117.2.2.2 = true then (if a1 < (-100000) then (date_Months.j0 k a1 a2 bt117.1 bt117.2.1 bt117.2.2.1 true) else (date_Months.j0 k a1 a2 bt117.1 bt117.2.1 bt117.2.2.1 (decide (a1 > 100000)))) else (date_Months.j0 k a1 a2 bt117.1 bt117.2.1 bt117.2.2.1 true))
theorem date_Months.mono_l : ∀ k, (∀ y0 y1 y2 y3 y4 y5, LeO (date_Months.j0 k y0 y1 y2 y3 y4 y5) (date_Months.j0 (k + 1) y0 y1 y2 y3 y4 y5))
 | 0 => fun _ _ _ _ _ _ r h => by simp [date_Months.j0] at h
 | k + 1 => by
  have ih0 := date_Months.mono_l k
  ·intro y0 y1 y2 y3 y4 y5
   unfold date_Months.j0
   repeat' first
   | (with_reducible exact ih0 _ _ _ _ _ _)
   | (with_reducible exact date_Day.mono _ _ _ _)
   | (with_reducible exact date_Last.mono _ _ _)
   | (with_reducible exact date_Parts.mono _ _)
   | (with_reducible exact LeO.refl _)
   | (with_reducible exact LeO.none _)
   | (with_reducible refine LeO.ite ?_ ?_)
   | (with_reducible refine LeO.bind ?_ (fun _ => ?_))
   | exact ih0 _ _ _ _ _ _
   | exact date_Day.mono _ _ _ _
   | exact date_Last.mono _ _ _
   | exact date_Parts.mono _ _
   | exact LeO.none _
   | refine LeO.ite ?_ ?_
   | refine LeO.bind ?_ (fun _ => ?_)
theorem date_Months.mono : ∀ a0 a1 a2 k, LeO (date_Months.f k a0 a1 a2) (date_Months.f (k + 1) a0 a1 a2) := by
 intro a0 a1 a2 k
 have ih0 := date_Months.mono_l k
 unfold date_Months.f
 repeat' first
   | (with_reducible exact ih0 _ _ _ _ _ _)
   | (with_reducible exact date_Day.mono _ _ _ _)
   | (with_reducible exact date_Last.mono _ _ _)
   | (with_reducible exact date_Parts.mono _ _)
   | (with_reducible exact LeO.refl _)
   | (with_reducible exact LeO.none _)
   | (with_reducible refine LeO.ite ?_ ?_)
   | (with_reducible refine LeO.bind ?_ (fun _ => ?_))
   | exact ih0 _ _ _ _ _ _
   | exact date_Day.mono _ _ _ _
   | exact date_Last.mono _ _ _
   | exact date_Parts.mono _ _
   | exact LeO.none _
   | refine LeO.ite ?_ ?_
   | refine LeO.bind ?_ (fun _ => ?_)
set_option maxHeartbeats 8000000 in
set_option maxRecDepth 100000 in
theorem date_Months.calls (k : Nat) (a0 : Int) (a1 : Int) (a2 : Bool) (r1 : Int) (r2 : Bool) (w : World) (h : date_Months.f k a0 a1 a2 = some (r1, r2)) :
  Calls Tryz.prog 87 #[.int .i64 a0, .int .i64 a1, .bool a2] w fun e w' => e = .returned (.tuple #[.int .i64 r1, .bool r2]) ∧ Below w.heap.size w w' := by
 have HB := Aside0.mk (Below.refl w.heap.size w)
 have H : ((date_Parts.f k a0).bind fun bt117 => (if bt117.2.2.2 = true then (if a1 < (-100000) then (date_Months.j0 k a1 a2 bt117.1 bt117.2.1 bt117.2.2.1 true) else (date_Months.j0 k a1 a2 bt117.1 bt117.2.1 bt117.2.2.1 (decide (a1 > 100000)))) else (date_Months.j0 k a1 a2 bt117.1 bt117.2.1 bt117.2.2.1 true))) = some (r1, r2) := h
 clear h
 replace H := Option.bind_eq_some_iff.mp H
 obtain ⟨⟨t117, t118, t119, t120⟩, A40, H⟩ := H
 replace H : (if t120 = true then (if a1 < (-100000) then (date_Months.j0 k a1 a2 t117 t118 t119 true) else (date_Months.j0 k a1 a2 t117 t118 t119 (decide (a1 > 100000)))) else (date_Months.j0 k a1 a2 t117 t118 t119 true)) = some (r1, r2) := H
 have A4 := Aside0.mk A40
 clear A40
 have HC5 := Aside0.mk H
 clear H
 go_enter Tryz.func87, Tryz.ntmps87
 go_upto_region 2 with (first | ((with_reducible refine gate_callee (f := 121) rfl ?_); refine goesL_ (some 15) rfl rfl Tryz.func121 (by kernel_rfl) rfl #[.int .i64 a0] rfl (by (try simp only [List.map_toArray, List.map_cons, List.map_nil]); first | done | rfl | (simp only [List.length_drop, List.length_take]; rfl)) ?_; (with_reducible refine (date_Parts.calls k a0 t117 t118 t119 t120 _ A4.out).mono ?_); rintro e w' ⟨rfl, ⟨nd, rfl⟩⟩; refine ⟨_, rfl, ?_⟩))
 (try simp only [Act.put, List.setIfInBounds_toArray, List.set_cons_zero, List.set_cons_succ])
 go_cut [29] (fun v29 wc => ∃ (kq : Nat) (x29_4 : Bool), v29 = .bool x29_4 ∧ Aside0 (date_Months.j0 kq a1 a2 t117 t118 t119 x29_4 = some (r1, r2)) ∧ Aside0 (kq ≤ k) ∧ Aside0 (Below w.heap.size w wc))
 case first =>
  have H := HC5.out
  clear HC5
  by_cases c6 : t120 = true
  ·subst c6
   have H1 : (if a1 < (-100000) then (date_Months.j0 k a1 a2 t117 t118 t119 true) else (date_Months.j0 k a1 a2 t117 t118 t119 (decide (a1 > 100000)))) = some (r1, r2) := by rw [if_pos rfl] at H; exact H
   clear H
   have H := H1
   clear H1
   by_cases c7 : a1 < (-100000)
   ·rw [if_pos c7] at H
    have c7b0 : decide (a1 < (-100000)) = true := decide_eq_true c7
    clear c7
    (first | rw [c7b0] | (simp only [i64_w, i32_w]; rw [c7b0]) | skip)
    have H' := Aside0.mk H
    clear H
    go_wp2
    go_meet
    case rel => exact ⟨_, (true), zrl, H', ⟨by first | omega | exact Nat.le_refl _⟩, ⟨by repeat (first | (with_reducible first | exact HB.out | apply below_alloc | apply pw_below_drewN | apply below_drew1) | exact HB.out)⟩⟩
   ·rw [if_neg c7] at H
    have c7b0 : decide (a1 < (-100000)) = false := decide_eq_false c7
    clear c7
    (first | rw [c7b0] | (simp only [i64_w, i32_w]; rw [c7b0]) | skip)
    have H' := Aside0.mk H
    clear H
    go_wp2
    go_meet
    case rel => exact ⟨_, (decide (a1 > 100000)), zrl, H', ⟨by first | omega | exact Nat.le_refl _⟩, ⟨by repeat (first | (with_reducible first | exact HB.out | apply below_alloc | apply pw_below_drewN | apply below_drew1) | exact HB.out)⟩⟩
  ·replace c6 := Bool.eq_false_iff.mpr c6
   subst c6
   have H1 : (date_Months.j0 k a1 a2 t117 t118 t119 true) = some (r1, r2) := by rw [if_neg (show ¬ (false = true) by decide)] at H; exact H
   clear H
   have H := H1
   clear H1
   have H' := Aside0.mk H
   clear H
   go_wp2
   go_meet
   case rel => exact ⟨_, (true), zrl, H', ⟨by first | omega | exact Nat.le_refl _⟩, ⟨by repeat (first | (with_reducible first | exact HB.out | apply below_alloc | apply pw_below_drewN | apply below_drew1) | exact HB.out)⟩⟩
 case rest =>
  clear HC5
  try clear c1
  try clear p2
  try clear c6
  try clear c7
  try clear c7b0
  obtain ⟨kq, x29_4, rfl, HA, HJ4, HB⟩ := hcut
  cases kq with
  | zero => exact absurd HA.out (by simp [date_Months.j0])
  | succ kj4 =>
   have H := HA.out
   clear HA
   simp only [date_Months.j0] at H
   by_cases c8 : x29_4 = true
   ·subst c8
    have H1 : (some (0, false)) = some (r1, r2) := by rw [if_pos rfl] at H; exact H
    clear H
    have H := H1
    clear H1
    simp only [Option.some.injEq, Prod.mk.injEq] at H
    obtain ⟨rfl, rfl⟩ := H
    go_wp2
    go_ret2
    exact ⟨by first | rfl | (simp [errW_none, errW_some] <;> rfl) | (simp [*, errW_none, errW_some] <;> rfl), by repeat (first | (with_reducible first | exact HB.out | apply below_alloc | apply pw_below_drewN | apply below_drew1) | exact HB.out)⟩
   ·replace c8 := Bool.eq_false_iff.mpr c8
    subst c8
    have H1 : ((date_carried.f t117 (wrap64 (t118 + a1))).bind fun bt121 => ((date_Last.f kj4 bt121.1 bt121.2).bind fun t123 => (if a2 = true then ((date_Day.f kj4 bt121.1 bt121.2 t123).bind fun bt124 => (some (bt124.1, bt124.2))) else ((date_Day.f kj4 bt121.1 bt121.2 (mn t119 t123)).bind fun bt126 => (some (bt126.1, bt126.2)))))) = some (r1, r2) := by rw [if_neg (show ¬ (false = true) by decide)] at H; exact H
    clear H
    have H := H1
    clear H1
    replace H := Option.bind_eq_some_iff.mp H
    obtain ⟨⟨t121, t122⟩, A90, H⟩ := H
    replace H : ((date_Last.f kj4 t121 t122).bind fun t123 => (if a2 = true then ((date_Day.f kj4 t121 t122 t123).bind fun bt124 => (some (bt124.1, bt124.2))) else ((date_Day.f kj4 t121 t122 (mn t119 t123)).bind fun bt126 => (some (bt126.1, bt126.2))))) = some (r1, r2) := H
    have A9 := Aside0.mk A90
    clear A90
    replace H := Option.bind_eq_some_iff.mp H
    obtain ⟨t123, A100, H⟩ := H
    replace H : (if a2 = true then ((date_Day.f kj4 t121 t122 t123).bind fun bt124 => (some (bt124.1, bt124.2))) else ((date_Day.f kj4 t121 t122 (mn t119 t123)).bind fun bt126 => (some (bt126.1, bt126.2)))) = some (r1, r2) := H
    have A10 := Aside0.mk A100
    clear A100
    by_cases c11 : a2 = true
    ·subst c11
     have H1 : ((date_Day.f kj4 t121 t122 t123).bind fun bt124 => (some (bt124.1, bt124.2))) = some (r1, r2) := by rw [if_pos rfl] at H; exact H
     clear H
     have H := H1
     clear H1
     replace H := Option.bind_eq_some_iff.mp H
     obtain ⟨⟨t124, t125⟩, A120, H⟩ := H
     replace H : (some (t124, t125)) = some (r1, r2) := H
     have A12 := Aside0.mk A120
     clear A120
     simp only [Option.some.injEq, Prod.mk.injEq] at H
     obtain ⟨rfl, rfl⟩ := H
     go_wp2_with (first | ((with_reducible refine gate_callee (f := 83) rfl ?_); refine goesL_ (some 35) rfl rfl Tryz.func83 (by kernel_rfl) rfl #[.int .i64 t117, .int .i64 (wrap64 (t118 + a1))] rfl (by (try simp only [List.map_toArray, List.map_cons, List.map_nil]); first | done | rfl | (simp only [List.length_drop, List.length_take]; rfl)) ?_; (with_reducible refine (date_carried.calls t117 (wrap64 (t118 + a1)) t121 t122 _ A9.out).mono ?_); rintro e w' ⟨rfl, ⟨nd, rfl⟩⟩; refine ⟨_, rfl, ?_⟩) | ((with_reducible refine gate_callee (f := 119) rfl ?_); refine goesL_ (some 40) rfl rfl Tryz.func119 (by kernel_rfl) rfl #[.int .i64 t121, .int .i64 t122] rfl (by (try simp only [List.map_toArray, List.map_cons, List.map_nil]); first | done | rfl | (simp only [List.length_drop, List.length_take]; rfl)) ?_; (with_reducible refine (date_Last.calls kj4 t121 t122 t123 _ A10.out).mono ?_); rintro e w' ⟨rfl, ⟨nd, rfl⟩⟩; refine ⟨_, rfl, ?_⟩) | ((with_reducible refine gate_callee (f := 84) rfl ?_); refine goesL_ (some 48) rfl rfl Tryz.func84 (by kernel_rfl) rfl #[.int .i64 t121, .int .i64 t122, .int .i64 t123] rfl (by (try simp only [List.map_toArray, List.map_cons, List.map_nil]); first | done | rfl | (simp only [List.length_drop, List.length_take]; rfl)) ?_; (with_reducible refine (date_Day.calls kj4 t121 t122 t123 t124 t125 _ A12.out).mono ?_); rintro e w' ⟨rfl, ⟨nd, rfl⟩⟩; refine ⟨_, rfl, ?_⟩))
     go_ret2
     exact ⟨by first | rfl | (simp [errW_none, errW_some] <;> rfl) | (simp [*, errW_none, errW_some] <;> rfl), by repeat (first | (with_reducible first | exact HB.out | apply below_alloc | apply pw_below_drewN | apply below_drew1) | exact HB.out)⟩
    ·replace c11 := Bool.eq_false_iff.mpr c11
     subst c11
     have H1 : ((date_Day.f kj4 t121 t122 (mn t119 t123)).bind fun bt126 => (some (bt126.1, bt126.2))) = some (r1, r2) := by rw [if_neg (show ¬ (false = true) by decide)] at H; exact H
     clear H
     have H := H1
     clear H1
     obtain ⟨ji13, hji13⟩ : ∃ j_ : Int, (mn t119 t123) = j_ := ⟨_, rfl⟩
     replace H : ((date_Day.f kj4 t121 t122 (ji13)).bind fun bt126 => (some (bt126.1, bt126.2))) = some (r1, r2) := by first | (rw [hji13] at H; exact H) | (simp only [hji13] at H ⊢; exact H)
     (try rw [hji13] at A9)
     (try rw [hji13] at A10)
     have hji13_ : (if t123 < t119 then t123 else t119) = ji13 := hji13
     replace H := Option.bind_eq_some_iff.mp H
     obtain ⟨⟨t126, t127⟩, A140, H⟩ := H
     replace H : (some (t126, t127)) = some (r1, r2) := H
     have A14 := Aside0.mk A140
     clear A140
     simp only [Option.some.injEq, Prod.mk.injEq] at H
     obtain ⟨rfl, rfl⟩ := H
     go_wp2_with (first | ((with_reducible refine gate_callee (f := 83) rfl ?_); refine goesL_ (some 35) rfl rfl Tryz.func83 (by kernel_rfl) rfl #[.int .i64 t117, .int .i64 (wrap64 (t118 + a1))] rfl (by (try simp only [List.map_toArray, List.map_cons, List.map_nil]); first | done | rfl | (simp only [List.length_drop, List.length_take]; rfl)) ?_; (with_reducible refine (date_carried.calls t117 (wrap64 (t118 + a1)) t121 t122 _ A9.out).mono ?_); rintro e w' ⟨rfl, ⟨nd, rfl⟩⟩; refine ⟨_, rfl, ?_⟩) | ((with_reducible refine gate_callee (f := 119) rfl ?_); refine goesL_ (some 40) rfl rfl Tryz.func119 (by kernel_rfl) rfl #[.int .i64 t121, .int .i64 t122] rfl (by (try simp only [List.map_toArray, List.map_cons, List.map_nil]); first | done | rfl | (simp only [List.length_drop, List.length_take]; rfl)) ?_; (with_reducible refine (date_Last.calls kj4 t121 t122 t123 _ A10.out).mono ?_); rintro e w' ⟨rfl, ⟨nd, rfl⟩⟩; refine ⟨_, rfl, ?_⟩) | ((with_reducible refine gate_callee (f := 84) rfl ?_); refine goesL_ (some 48) rfl rfl Tryz.func84 (by kernel_rfl) rfl #[.int .i64 t121, .int .i64 t122, .int .i64 ji13] rfl (by (try simp only [List.map_toArray, List.map_cons, List.map_nil]); first | done | (simp only [hji13]; rfl) | rfl | (simp only [List.length_drop, List.length_take]; rfl)) ?_; (with_reducible refine (date_Day.calls kj4 t121 t122 ji13 t126 t127 _ A14.out).mono ?_); rintro e w' ⟨rfl, ⟨nd, rfl⟩⟩; refine ⟨_, rfl, ?_⟩))
     go_ret2
     exact ⟨by first | rfl | (simp [errW_none, errW_some] <;> rfl) | (simp only [← hji13]; first | rfl | (simp [errW_none, errW_some] <;> rfl)) | (simp [*, errW_none, errW_some] <;> rfl), by repeat (first | (with_reducible first | exact HB.out | apply below_alloc | apply pw_below_drewN | apply below_drew1) | exact HB.out)⟩
def date_Of.l0 : Nat → Int → Int → Int → Int → Option (Int × Bool)
 | 0, _, _, _, _ => none
 | k + 1, x0, x1, x2, x16 => if x16 < 3 then (if 0 ≤ x16 then (if (rd ([x0, x1, x2] : List Int) x16) < (-100000) then (some (0, false)) else (if (rd ([x0, x1, x2] : List Int) x16) > 100000 then (some (0, false)) else (date_Of.l0 k x0 x1 x2 (wrap64 (x16 + 1))))) else (none)) else ((date_carried.f x0 x1).bind fun bt128 => ((date_Day.f k bt128.1 bt128.2 1).bind fun bt130 => (if bt130.2 = true then ((date_good.f (wrap64 ((wrap64 (bt130.1 + x2)) - 1))).bind fun t132 => (if t132 = true then (some (wrap64 ((wrap64 (bt130.1 + x2)) - 1), true)) else (some (0, false)))) else (some (0, false)))))
def date_Of.f (k : Nat) (a0 : Int) (a1 : Int) (a2 : Int) : Option (Int × Bool) := date_Of.l0 k a0 a1 a2 0
theorem date_Of.mono_l : ∀ k, (∀ y0 y1 y2 y3, LeO (date_Of.l0 k y0 y1 y2 y3) (date_Of.l0 (k + 1) y0 y1 y2 y3))
 | 0 => fun _ _ _ _ r h => by simp [date_Of.l0] at h
 | k + 1 => by
  have ih0 := date_Of.mono_l k
  ·intro y0 y1 y2 y3
   unfold date_Of.l0
   repeat' first
   | (with_reducible exact ih0 _ _ _ _)
   | (with_reducible exact date_Day.mono _ _ _ _)
   | (with_reducible exact LeO.refl _)
   | (with_reducible exact LeO.none _)
   | (with_reducible refine LeO.ite ?_ ?_)
   | (with_reducible refine LeO.bind ?_ (fun _ => ?_))
   | exact ih0 _ _ _ _
   | exact date_Day.mono _ _ _ _
   | exact LeO.none _
   | refine LeO.ite ?_ ?_
   | refine LeO.bind ?_ (fun _ => ?_)
theorem date_Of.mono : ∀ a0 a1 a2 k, LeO (date_Of.f k a0 a1 a2) (date_Of.f (k + 1) a0 a1 a2) := by
 intro a0 a1 a2 k
 have ih0 := date_Of.mono_l k
 unfold date_Of.f
 repeat' first
   | (with_reducible exact ih0 _ _ _ _)
   | (with_reducible exact date_Day.mono _ _ _ _)
   | (with_reducible exact LeO.refl _)
   | (with_reducible exact LeO.none _)
   | (with_reducible refine LeO.ite ?_ ?_)
   | (with_reducible refine LeO.bind ?_ (fun _ => ?_))
   | exact ih0 _ _ _ _
   | exact date_Day.mono _ _ _ _
   | exact LeO.none _
   | refine LeO.ite ?_ ?_
   | refine LeO.bind ?_ (fun _ => ?_)
set_option maxHeartbeats 8000000 in
set_option maxRecDepth 100000 in
theorem date_Of.calls (k : Nat) (a0 : Int) (a1 : Int) (a2 : Int) (r1 : Int) (r2 : Bool) (w : World) (h : date_Of.f k a0 a1 a2 = some (r1, r2)) :
  Calls Tryz.prog 50 #[.int .i64 a0, .int .i64 a1, .int .i64 a2] w fun e w' => e = .returned (.tuple #[.int .i64 r1, .bool r2]) ∧ Drawn0 w w' := by
 have hu78 := Tryz.underlying78
 have H : (date_Of.l0 k a0 a1 a2 0) = some (r1, r2) := h
 clear h
 have H' := Aside0.mk H
 clear H
 go_enter Tryz.func50, Tryz.ntmps50
 go_wp2
 go_loopg [16] k (fun kq v16 w' => ∃ (x16_1 : Int), v16 = .int .i64 x16_1 ∧ Aside0 (date_Of.l0 kq a0 a1 a2 x16_1 = some (r1, r2)) ∧ Aside0 (kq ≤ k) ∧ Drawn0 w w')
 case atStart => exact ⟨(0), zrl, H', ⟨Nat.le_refl _⟩, zdn⟩
 case round =>
  clear H'
  try clear p2
  obtain ⟨x16_1, rfl, HA, HK1, ⟨m1, rfl⟩⟩ := hrel
  cases gk with
  | zero => exact absurd HA.out (by simp [date_Of.l0])
  | succ k1 =>
   have H := HA.out
   clear HA
   simp only [date_Of.l0] at H
   by_cases c4 : x16_1 < 3
   ·rw [if_pos c4] at H
    have c4b0 : decide (x16_1 < 3) = true := decide_eq_true c4
    clear c4
    by_cases c5 : 0 ≤ x16_1
    ·rw [if_pos c5] at H
     have c5b0 : decide (0 ≤ x16_1) = true := decide_eq_true c5
     clear c5
     by_cases c7 : (rd ([a0, a1, a2] : List Int) x16_1) < (-100000)
     ·rw [if_pos c7] at H
      have c7b0 : decide ((rd ([a0, a1, a2] : List Int) x16_1) < (-100000)) = true := decide_eq_true c7
      clear c7
      simp only [Option.some.injEq, Prod.mk.injEq] at H
      obtain ⟨rfl, rfl⟩ := H
      have p6 : 0 ≤ (x16_1 : Int) := of_decide_eq_true zas
      have q6 : x16_1 < (3 : Int) := of_decide_eq_true zas
      have hx6 : ∀ w_ : World, (Instr.index 78 (.agg #[.int .i64 a0, .int .i64 a1, .int .i64 a2]) (.int .i64 x16_1)).run Tryz.prog w_ = .ok (.int .i64 (rd ([a0, a1, a2] : List Int) x16_1)) w_ := fun w_ => X.run_index_array 78 3 3 _ _ _ _ (by kernel_rfl) (by kernel_rfl) (by kernel_rfl) p6 q6 (X.at_ints .i64 ([a0, a1, a2] : List Int) x16_1 q6 p6)
      replace p6 := eq_true p6
      replace q6 := eq_true q6
      go_wp2
      go_ret2
      exact ⟨zrl, zdn⟩
     ·rw [if_neg c7] at H
      have c7b0 : decide ((rd ([a0, a1, a2] : List Int) x16_1) < (-100000)) = false := decide_eq_false c7
      clear c7
      by_cases c8 : (rd ([a0, a1, a2] : List Int) x16_1) > 100000
      ·rw [if_pos c8] at H
       have c8b0 : decide (100000 < (rd ([a0, a1, a2] : List Int) x16_1)) = true := decide_eq_true c8
       clear c8
       simp only [Option.some.injEq, Prod.mk.injEq] at H
       obtain ⟨rfl, rfl⟩ := H
       have p6 : 0 ≤ (x16_1 : Int) := of_decide_eq_true zas
       have q6 : x16_1 < (3 : Int) := of_decide_eq_true zas
       have hx6 : ∀ w_ : World, (Instr.index 78 (.agg #[.int .i64 a0, .int .i64 a1, .int .i64 a2]) (.int .i64 x16_1)).run Tryz.prog w_ = .ok (.int .i64 (rd ([a0, a1, a2] : List Int) x16_1)) w_ := fun w_ => X.run_index_array 78 3 3 _ _ _ _ (by kernel_rfl) (by kernel_rfl) (by kernel_rfl) p6 q6 (X.at_ints .i64 ([a0, a1, a2] : List Int) x16_1 q6 p6)
       replace p6 := eq_true p6
       replace q6 := eq_true q6
       go_wp2
       go_ret2
       exact ⟨zrl, zdn⟩
      ·rw [if_neg c8] at H
       have c8b0 : decide (100000 < (rd ([a0, a1, a2] : List Int) x16_1)) = false := decide_eq_false c8
       clear c8
       have H' := Aside0.mk H
       clear H
       have p6 : 0 ≤ (x16_1 : Int) := of_decide_eq_true zas
       have q6 : x16_1 < (3 : Int) := of_decide_eq_true zas
       have hx6 : ∀ w_ : World, (Instr.index 78 (.agg #[.int .i64 a0, .int .i64 a1, .int .i64 a2]) (.int .i64 x16_1)).run Tryz.prog w_ = .ok (.int .i64 (rd ([a0, a1, a2] : List Int) x16_1)) w_ := fun w_ => X.run_index_array 78 3 3 _ _ _ _ (by kernel_rfl) (by kernel_rfl) (by kernel_rfl) p6 q6 (X.at_ints .i64 ([a0, a1, a2] : List Int) x16_1 q6 p6)
       replace p6 := eq_true p6
       replace q6 := eq_true q6
       go_wp2
       go_roundg k1
       case measure => have := HK1.out; omega
       case rel => exact ⟨(wrap64 (x16_1 + 1)), zrl, H', ⟨by have := HK1.out; omega⟩, zdn⟩
    ·rw [if_neg c5] at H
     exact absurd H (by simp)
   ·rw [if_neg c4] at H
    have c4b0 : decide (x16_1 < 3) = false := decide_eq_false c4
    clear c4
    replace H := Option.bind_eq_some_iff.mp H
    obtain ⟨⟨t128, t129⟩, A90, H⟩ := H
    replace H : ((date_Day.f k1 t128 t129 1).bind fun bt130 => (if bt130.2 = true then ((date_good.f (wrap64 ((wrap64 (bt130.1 + a2)) - 1))).bind fun t132 => (if t132 = true then (some (wrap64 ((wrap64 (bt130.1 + a2)) - 1), true)) else (some (0, false)))) else (some (0, false)))) = some (r1, r2) := H
    have A9 := Aside0.mk A90
    clear A90
    replace H := Option.bind_eq_some_iff.mp H
    obtain ⟨⟨t130, t131⟩, A100, H⟩ := H
    replace H : (if t131 = true then ((date_good.f (wrap64 ((wrap64 (t130 + a2)) - 1))).bind fun t132 => (if t132 = true then (some (wrap64 ((wrap64 (t130 + a2)) - 1), true)) else (some (0, false)))) else (some (0, false))) = some (r1, r2) := H
    have A10 := Aside0.mk A100
    clear A100
    by_cases c11 : t131 = true
    ·subst c11
     have H1 : ((date_good.f (wrap64 ((wrap64 (t130 + a2)) - 1))).bind fun t132 => (if t132 = true then (some (wrap64 ((wrap64 (t130 + a2)) - 1), true)) else (some (0, false)))) = some (r1, r2) := by rw [if_pos rfl] at H; exact H
     clear H
     have H := H1
     clear H1
     replace H := Option.bind_eq_some_iff.mp H
     obtain ⟨t132, A120, H⟩ := H
     replace H : (if t132 = true then (some (wrap64 ((wrap64 (t130 + a2)) - 1), true)) else (some (0, false))) = some (r1, r2) := H
     have A12 := Aside0.mk A120
     clear A120
     by_cases c13 : t132 = true
     ·subst c13
      have H1 : (some (wrap64 ((wrap64 (t130 + a2)) - 1), true)) = some (r1, r2) := by rw [if_pos rfl] at H; exact H
      clear H
      have H := H1
      clear H1
      simp only [Option.some.injEq, Prod.mk.injEq] at H
      obtain ⟨rfl, rfl⟩ := H
      go_wp2_with (first | ((with_reducible refine gate_callee (f := 83) rfl ?_); refine goesL_ (some 29) rfl rfl Tryz.func83 (by kernel_rfl) rfl #[.int .i64 a0, .int .i64 a1] rfl (by (try simp only [List.map_toArray, List.map_cons, List.map_nil]); first | done | rfl | (simp only [List.length_drop, List.length_take]; rfl)) ?_; (with_reducible refine (date_carried.calls a0 a1 t128 t129 _ A9.out).mono ?_); rintro e w' ⟨rfl, ⟨nd, rfl⟩⟩; refine ⟨_, rfl, ?_⟩) | ((with_reducible refine gate_callee (f := 84) rfl ?_); refine goesL_ (some 35) rfl rfl Tryz.func84 (by kernel_rfl) rfl #[.int .i64 t128, .int .i64 t129, .int .i64 1] rfl (by (try simp only [List.map_toArray, List.map_cons, List.map_nil]); first | done | rfl | (simp only [List.length_drop, List.length_take]; rfl)) ?_; (with_reducible refine (date_Day.calls k1 t128 t129 1 t130 true _ A10.out).mono ?_); rintro e w' ⟨rfl, ⟨nd, rfl⟩⟩; refine ⟨_, rfl, ?_⟩) | (go_at_call 85; (with_reducible refine (date_good.calls (wrap64 ((wrap64 (t130 + a2)) - 1)) true _ A12.out).mono ?_); rintro e w' ⟨rfl, ⟨nd, rfl⟩⟩))
      go_ret2
      exact ⟨zrl, zdn⟩
     ·replace c13 := Bool.eq_false_iff.mpr c13
      subst c13
      have H1 : (some (0, false)) = some (r1, r2) := by rw [if_neg (show ¬ (false = true) by decide)] at H; exact H
      clear H
      have H := H1
      clear H1
      simp only [Option.some.injEq, Prod.mk.injEq] at H
      obtain ⟨rfl, rfl⟩ := H
      go_wp2_with (first | ((with_reducible refine gate_callee (f := 83) rfl ?_); refine goesL_ (some 29) rfl rfl Tryz.func83 (by kernel_rfl) rfl #[.int .i64 a0, .int .i64 a1] rfl (by (try simp only [List.map_toArray, List.map_cons, List.map_nil]); first | done | rfl | (simp only [List.length_drop, List.length_take]; rfl)) ?_; (with_reducible refine (date_carried.calls a0 a1 t128 t129 _ A9.out).mono ?_); rintro e w' ⟨rfl, ⟨nd, rfl⟩⟩; refine ⟨_, rfl, ?_⟩) | ((with_reducible refine gate_callee (f := 84) rfl ?_); refine goesL_ (some 35) rfl rfl Tryz.func84 (by kernel_rfl) rfl #[.int .i64 t128, .int .i64 t129, .int .i64 1] rfl (by (try simp only [List.map_toArray, List.map_cons, List.map_nil]); first | done | rfl | (simp only [List.length_drop, List.length_take]; rfl)) ?_; (with_reducible refine (date_Day.calls k1 t128 t129 1 t130 true _ A10.out).mono ?_); rintro e w' ⟨rfl, ⟨nd, rfl⟩⟩; refine ⟨_, rfl, ?_⟩) | (go_at_call 85; (with_reducible refine (date_good.calls (wrap64 ((wrap64 (t130 + a2)) - 1)) false _ A12.out).mono ?_); rintro e w' ⟨rfl, ⟨nd, rfl⟩⟩))
      go_ret2
      exact ⟨zrl, zdn⟩
    ·replace c11 := Bool.eq_false_iff.mpr c11
     subst c11
     have H1 : (some (0, false)) = some (r1, r2) := by rw [if_neg (show ¬ (false = true) by decide)] at H; exact H
     clear H
     have H := H1
     clear H1
     simp only [Option.some.injEq, Prod.mk.injEq] at H
     obtain ⟨rfl, rfl⟩ := H
     go_wp2_with (first | ((with_reducible refine gate_callee (f := 83) rfl ?_); refine goesL_ (some 29) rfl rfl Tryz.func83 (by kernel_rfl) rfl #[.int .i64 a0, .int .i64 a1] rfl (by (try simp only [List.map_toArray, List.map_cons, List.map_nil]); first | done | rfl | (simp only [List.length_drop, List.length_take]; rfl)) ?_; (with_reducible refine (date_carried.calls a0 a1 t128 t129 _ A9.out).mono ?_); rintro e w' ⟨rfl, ⟨nd, rfl⟩⟩; refine ⟨_, rfl, ?_⟩) | ((with_reducible refine gate_callee (f := 84) rfl ?_); refine goesL_ (some 35) rfl rfl Tryz.func84 (by kernel_rfl) rfl #[.int .i64 t128, .int .i64 t129, .int .i64 1] rfl (by (try simp only [List.map_toArray, List.map_cons, List.map_nil]); first | done | rfl | (simp only [List.length_drop, List.length_take]; rfl)) ?_; (with_reducible refine (date_Day.calls k1 t128 t129 1 t130 false _ A10.out).mono ?_); rintro e w' ⟨rfl, ⟨nd, rfl⟩⟩; refine ⟨_, rfl, ?_⟩))
     go_ret2
     exact ⟨zrl, zdn⟩
def date_Parse.l0 : Nat → ByteArray → Int → Int → Int → Int → Int → Option (Int × Bool)
 | 0, _, _, _, _, _, _ => none
 | k + 1, s, j, i, a, b, c => if i < (s.size : Int) then (if 0 ≤ i then (if i = 4 ∨ i = 7 then (if bt s i = 45 then (date_Parse.l0 k s (wrap64 (j + 1)) (wrap64 (i + 1)) a b c) else (some (0, false))) else (if bt s i < 48 then (some (0, false)) else (if bt s i > 57 then (some (0, false)) else (if j = 0 then (date_Parse.l0 k s j (wrap64 (i + 1)) (wrap64 ((wrap64 (10 * a)) + (((bt s i) - 48) % 256))) b c) else (if j = 1 then (date_Parse.l0 k s j (wrap64 (i + 1)) a (wrap64 ((wrap64 (10 * b)) + (((bt s i) - 48) % 256))) c) else (if j = 2 then (date_Parse.l0 k s j (wrap64 (i + 1)) a b (wrap64 ((wrap64 (10 * c)) + (((bt s i) - 48) % 256)))) else none)))))) else none) else (date_Day.f k a b c)
def date_Parse.f (k : Nat) (a0 : ByteArray) : Option (Int × Bool) := if (a0.size : Int) = 10 then (date_Parse.l0 k a0 0 0 0 0 0) else (some (0, false))
theorem date_Parse.mono_l : ∀ k, (∀ y0 y1 y2 y3 y4 y5, LeO (date_Parse.l0 k y0 y1 y2 y3 y4 y5) (date_Parse.l0 (k + 1) y0 y1 y2 y3 y4 y5))
 | 0 => fun _ _ _ _ _ _ r h => by simp [date_Parse.l0] at h
 | k + 1 => by
  have ih0 := date_Parse.mono_l k
  ·intro y0 y1 y2 y3 y4 y5
   unfold date_Parse.l0
   repeat' first
   | (with_reducible exact ih0 _ _ _ _ _ _)
   | (with_reducible exact date_Day.mono _ _ _ _)
   | (with_reducible exact LeO.refl _)
   | (with_reducible exact LeO.none _)
   | (with_reducible refine LeO.ite ?_ ?_)
   | (with_reducible refine LeO.bind ?_ (fun _ => ?_))
theorem date_Parse.mono : ∀ a0 k, LeO (date_Parse.f k a0) (date_Parse.f (k + 1) a0) := by
 intro a0 k
 have ih0 := date_Parse.mono_l k
 unfold date_Parse.f
 repeat' first
   | (with_reducible exact ih0 _ _ _ _ _ _)
   | (with_reducible exact LeO.refl _)
   | (with_reducible exact LeO.none _)
   | (with_reducible refine LeO.ite ?_ ?_)
   | (with_reducible refine LeO.bind ?_ (fun _ => ?_))
set_option maxHeartbeats 8000000 in
set_option maxRecDepth 100000 in
theorem date_Parse.calls (k : Nat) (a0 : ByteArray) (r1 : Int) (r2 : Bool) (w : World) (h : date_Parse.f k a0 = some (r1, r2)) :
  Calls Tryz.prog 57 #[.string a0] w fun e w' => e = .returned (.tuple #[.int .i64 r1, .bool r2]) ∧ Below w.heap.size w w' := by
 unfold date_Parse.f at h
 by_cases c0 : (a0.size : Int) = 10
 ·rw [if_pos c0] at h
  have c0b0 : ((a0.size : Int) == 10) = true := beq_iff_eq.mpr c0
  have c0b1 : ((a0.size : Int) != 10) = false := bne_eq_false_iff_eq.mpr c0
  have h' := Aside0.mk h
  clear h c0
  go_enter Tryz.func57, Tryz.ntmps57
  go_wp2
  go_loopg [5, 13] k (fun kq v5 v13 w' => ∃ (j i a b c : Int), v5 = .int .i64 j ∧ v13 = .int .i64 i ∧ Aside0 (date_Parse.l0 kq a0 j i a b c = some (r1, r2)) ∧ Aside0 (kq ≤ k) ∧ Aside0 (X.Blk w' w.heap.size 78 #[.int .i64 a, .int .i64 b, .int .i64 c]) ∧ Aside0 (Below w.heap.size w w'))
  case atStart => exact ⟨0, 0, 0, 0, 0, rfl, rfl, h', ⟨Nat.le_refl _⟩, ⟨X.Blk.new _ _ _⟩, ⟨(Below.refl _ _).alloc (Nat.le_refl _) _⟩⟩
  case round =>
   clear h'
   obtain ⟨j, i, a, b, c, rfl, rfl, HA, HK1, HC, HB⟩ := hrel
   have hc0 := HC.out.cell 0
   have hc1 := HC.out.cell 1
   have hc2 := HC.out.cell 2
   have hf0 := HC.out.frozen 0
   have hf1 := HC.out.frozen 1
   have hf2 := HC.out.frozen 2
   simp only [List.getElem?_toArray, List.getElem?_cons_zero, List.getElem?_cons_succ] at hc0 hc1 hc2
   cases gk with
   | zero => exact absurd HA.out (by simp [date_Parse.l0])
   | succ k1 =>
    have H := HA.out
    clear HA
    simp only [date_Parse.l0] at H
    by_cases c2 : i < (a0.size : Int)
    ·rw [if_pos c2] at H
     have c2b0 : decide (i < (a0.size : Int)) = true := decide_eq_true c2
     by_cases c3 : 0 ≤ i
     ·rw [if_pos c3] at H
      have hx := bt_at a0 i
      have p3 := eq_true c3
      have q3 := eq_true c2
      clear c2 c3
      by_cases c4 : i = 4 ∨ i = 7
      ·rw [if_pos c4] at H
       by_cases c5 : bt a0 i = 45
       ·rw [if_pos c5] at H
        have c5b0 : (bt a0 i == 45) = true := beq_iff_eq.mpr c5
        have c5b1 : (bt a0 i != 45) = false := bne_eq_false_iff_eq.mpr c5
        clear c5
        have H' := Aside0.mk H
        clear H
        rcases c4 with c4 | c4
        ·have c4b0 : (i == 4) = true := beq_iff_eq.mpr c4
         clear c4
         go_wp2
         go_roundg k1
         case measure => have := HK1.out; omega
         case rel => exact ⟨_, _, a, b, c, rfl, rfl, H', ⟨by have := HK1.out; omega⟩, HC, HB⟩
        ·have c4b0 : (i == 4) = false := beq_eq_false_iff_ne.mpr (by omega)
         have c4b1 : (i == 7) = true := beq_iff_eq.mpr c4
         clear c4
         go_wp2
         go_roundg k1
         case measure => have := HK1.out; omega
         case rel => exact ⟨_, _, a, b, c, rfl, rfl, H', ⟨by have := HK1.out; omega⟩, HC, HB⟩
       ·rw [if_neg c5] at H
        have c5b0 : (bt a0 i == 45) = false := beq_eq_false_iff_ne.mpr c5
        have c5b1 : (bt a0 i != 45) = true := bne_iff_ne.mpr c5
        clear c5
        simp only [Option.some.injEq, Prod.mk.injEq] at H
        obtain ⟨rfl, rfl⟩ := H
        rcases c4 with c4 | c4
        ·have c4b0 : (i == 4) = true := beq_iff_eq.mpr c4
         clear c4
         go_wp2
         go_ret2
         exact ⟨rfl, HB.out⟩
        ·have c4b0 : (i == 4) = false := beq_eq_false_iff_ne.mpr (by omega)
         have c4b1 : (i == 7) = true := beq_iff_eq.mpr c4
         clear c4
         go_wp2
         go_ret2
         exact ⟨rfl, HB.out⟩
      ·rw [if_neg c4] at H
       have c4b0 : (i == 4) = false := beq_eq_false_iff_ne.mpr (by omega)
       have c4b1 : (i == 7) = false := beq_eq_false_iff_ne.mpr (by omega)
       clear c4
       by_cases c5 : bt a0 i < 48
       ·rw [if_pos c5] at H
        have c5b0 : decide (bt a0 i < 48) = true := decide_eq_true c5
        clear c5
        simp only [Option.some.injEq, Prod.mk.injEq] at H
        obtain ⟨rfl, rfl⟩ := H
        go_wp2
        go_ret2
        exact ⟨rfl, HB.out⟩
       ·rw [if_neg c5] at H
        have c5b0 : decide (bt a0 i < 48) = false := decide_eq_false c5
        clear c5
        by_cases c6 : bt a0 i > 57
        ·rw [if_pos c6] at H
         have c6b0 : decide (57 < bt a0 i) = true := decide_eq_true c6
         clear c6
         simp only [Option.some.injEq, Prod.mk.injEq] at H
         obtain ⟨rfl, rfl⟩ := H
         go_wp2
         go_ret2
         exact ⟨rfl, HB.out⟩
        ·rw [if_neg c6] at H
         have c6b0 : decide (57 < bt a0 i) = false := decide_eq_false c6
         clear c6
         by_cases c7 : j = 0
         ·subst c7
          rw [if_pos rfl] at H
          have H' := Aside0.mk H
          clear H
          go_wp2
          go_roundg k1
          case measure => have := HK1.out; omega
          case rel => exact ⟨_, _, _, b, c, rfl, rfl, H', ⟨by have := HK1.out; omega⟩, ⟨HC.out.set_ 0 _⟩, ⟨HB.out.setCell (Nat.le_refl _) _⟩⟩
         ·rw [if_neg c7] at H
          by_cases c8 : j = 1
          ·subst c8
           rw [if_pos rfl] at H
           have H' := Aside0.mk H
           clear H c7
           go_wp2
           go_roundg k1
           case measure => have := HK1.out; omega
           case rel => exact ⟨_, _, a, _, c, rfl, rfl, H', ⟨by have := HK1.out; omega⟩, ⟨HC.out.set_ 1 _⟩, ⟨HB.out.setCell (Nat.le_refl _) _⟩⟩
          ·rw [if_neg c8] at H
           by_cases c9 : j = 2
           ·subst c9
            rw [if_pos rfl] at H
            have H' := Aside0.mk H
            clear H c7 c8
            go_wp2
            go_roundg k1
            case measure => have := HK1.out; omega
            case rel => exact ⟨_, _, a, b, _, rfl, rfl, H', ⟨by have := HK1.out; omega⟩, ⟨HC.out.set_ 2 _⟩, ⟨HB.out.setCell (Nat.le_refl _) _⟩⟩
           ·rw [if_neg c9] at H
            exact absurd H (by simp)
     ·rw [if_neg c3] at H
      exact absurd H (by simp)
    ·rw [if_neg c2] at H
     have c2b0 : decide (i < (a0.size : Int)) = false := decide_eq_false c2
     clear c2
     have A1 := Aside0.mk H
     clear H
     go_wp2_with (go_at_call 84; refine (date_Day.calls k1 a b c r1 r2 _ A1.out).mono ?_; rintro e w1 ⟨rfl, nd, rfl⟩)
     go_ret2
     exact ⟨rfl, by apply pw_below_drewN; exact HB.out⟩
 ·rw [if_neg c0] at h
  have c0b0 : ((a0.size : Int) == 10) = false := beq_eq_false_iff_ne.mpr c0
  have c0b1 : ((a0.size : Int) != 10) = true := bne_iff_ne.mpr c0
  simp only [Option.some.injEq, Prod.mk.injEq] at h
  obtain ⟨rfl, rfl⟩ := h
  go_enter Tryz.func57, Tryz.ntmps57
  go_wp2
  go_ret2
  exact ⟨rfl, Below.refl _ _⟩
end Go.Proofs.YtllceoncpgebpaaGreatDoor.P
