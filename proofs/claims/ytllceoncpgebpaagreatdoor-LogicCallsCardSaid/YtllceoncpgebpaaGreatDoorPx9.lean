-- Written by a program of this session (wip/tools/xprint.py), out of the seat's translation. Not trusted: Lean checks it.
import Derived.Test.YtllceoncpgebpaaGreatDoorPx0
import Derived.Test.YtllceoncpgebpaaGreatDoorPx7
namespace Go.Proofs.YtllceoncpgebpaaGreatDoor.P
open Go.RowKit Go.Proofs.YtllceoncpgebpaaGreatDoorW.PrintWords Go.Proofs.YtllceoncpgebpaaGreatDoorW.PrintLast Go.Proofs.YtllceoncpgebpaaGreatDoorW.PrintMore
attribute [local go_sem] max2_int min2_int max_two min_two max_three min_three max_four min_four X.binOp_str_gtr X.binOp_str_leq
set_option linter.unusedVariables false
set_option linter.unusedSimpArgs false
mutual
def octavoref07_Of.l0 : Nat → Int → Int → Int → Int → Option (Int × Bool)
 | 0, _, _, _, _ => none
 | k + 1, x0, x1, x2, x15 => if x15 < 3 then (if 0 ≤ x15 then (if (rd ([x0, x1, x2] : List Int) x15) < (-100000) then (some (0, false)) else (if (rd ([x0, x1, x2] : List Int) x15) > 100000 then (some (0, false)) else (octavoref07_Of.l0 k x0 x1 x2 (wrap64 (x15 + 1))))) else (none)) else (octavoref07_Of.l1 k x0 x1 x2)
def octavoref07_Of.l1 : Nat → Int → Int → Int → Option (Int × Bool)
 | 0, _, _, _ => none
 | k + 1, x0, x1, x2 => if x1 < 1 then (octavoref07_Of.l1 k (wrap64 (x0 - 1)) (wrap64 (x1 + 12)) x2) else (octavoref07_Of.l2 k x0 x1 x2)
def octavoref07_Of.l2 : Nat → Int → Int → Int → Option (Int × Bool)
 | 0, _, _, _ => none
 | k + 1, x0, x1, x2 => if x1 > 12 then (octavoref07_Of.l2 k (wrap64 (x0 + 1)) (wrap64 (x1 - 12)) x2) else (if x0 < 1900 then (octavoref07_Of.j3 k x0 x1 x2 true) else (octavoref07_Of.j3 k x0 x1 x2 (decide (x0 > 9999))))
def octavoref07_Of.j3 : Nat → Int → Int → Int → Bool → Option (Int × Bool)
 | 0, _, _, _, _ => none
 | k + 1, x0, x1, x2, x42 => if x42 = true then (some (0, false)) else ((octavoref07_first.f k x0 x1).bind fun t200 => (if (wrap64 (t200 + x2)) < 1 then (some (0, false)) else (if (wrap64 (t200 + x2)) > 2958464 then (some (0, false)) else (some (wrap64 (t200 + x2), true)))))
end
def octavoref07_Of.f (k : Nat) (a0 : Int) (a1 : Int) (a2 : Int) : Option (Int × Bool) := octavoref07_Of.l0 k a0 a1 a2 0
theorem octavoref07_Of.mono_l : ∀ k, (∀ y0 y1 y2 y3, LeO (octavoref07_Of.l0 k y0 y1 y2 y3) (octavoref07_Of.l0 (k + 1) y0 y1 y2 y3)) ∧ (∀ y0 y1 y2, LeO (octavoref07_Of.l1 k y0 y1 y2) (octavoref07_Of.l1 (k + 1) y0 y1 y2)) ∧ (∀ y0 y1 y2, LeO (octavoref07_Of.l2 k y0 y1 y2) (octavoref07_Of.l2 (k + 1) y0 y1 y2)) ∧ (∀ y0 y1 y2 y3, LeO (octavoref07_Of.j3 k y0 y1 y2 y3) (octavoref07_Of.j3 (k + 1) y0 y1 y2 y3))
 | 0 => ⟨fun _ _ _ _ r h => by simp [octavoref07_Of.l0] at h, fun _ _ _ r h => by simp [octavoref07_Of.l1] at h, fun _ _ _ r h => by simp [octavoref07_Of.l2] at h, fun _ _ _ _ r h => by simp [octavoref07_Of.j3] at h⟩
 | k + 1 => by
  obtain ⟨ih0, ih1, ih2, ih3⟩ := octavoref07_Of.mono_l k
  refine ⟨?_, ?_, ?_, ?_⟩
  ·intro y0 y1 y2 y3
   unfold octavoref07_Of.l0
   repeat' first
   | (with_reducible exact ih0 _ _ _ _)
   | (with_reducible exact ih1 _ _ _)
   | (with_reducible exact ih2 _ _ _)
   | (with_reducible exact ih3 _ _ _ _)
   | (with_reducible exact octavoref07_first.mono _ _ _)
   | (with_reducible exact LeO.refl _)
   | (with_reducible exact LeO.none _)
   | (with_reducible refine LeO.ite ?_ ?_)
   | (with_reducible refine LeO.bind ?_ (fun _ => ?_))
   | exact ih0 _ _ _ _
   | exact ih1 _ _ _
   | exact ih2 _ _ _
   | exact ih3 _ _ _ _
   | exact octavoref07_first.mono _ _ _
   | exact LeO.none _
   | refine LeO.ite ?_ ?_
   | refine LeO.bind ?_ (fun _ => ?_)
  ·intro y0 y1 y2
   unfold octavoref07_Of.l1
   repeat' first
   | (with_reducible exact ih0 _ _ _ _)
   | (with_reducible exact ih1 _ _ _)
   | (with_reducible exact ih2 _ _ _)
   | (with_reducible exact ih3 _ _ _ _)
   | (with_reducible exact octavoref07_first.mono _ _ _)
   | (with_reducible exact LeO.refl _)
   | (with_reducible exact LeO.none _)
   | (with_reducible refine LeO.ite ?_ ?_)
   | (with_reducible refine LeO.bind ?_ (fun _ => ?_))
   | exact ih0 _ _ _ _
   | exact ih1 _ _ _
   | exact ih2 _ _ _
   | exact ih3 _ _ _ _
   | exact octavoref07_first.mono _ _ _
   | exact LeO.none _
   | refine LeO.ite ?_ ?_
   | refine LeO.bind ?_ (fun _ => ?_)
  ·intro y0 y1 y2
   unfold octavoref07_Of.l2
   repeat' first
   | (with_reducible exact ih0 _ _ _ _)
   | (with_reducible exact ih1 _ _ _)
   | (with_reducible exact ih2 _ _ _)
   | (with_reducible exact ih3 _ _ _ _)
   | (with_reducible exact octavoref07_first.mono _ _ _)
   | (with_reducible exact LeO.refl _)
   | (with_reducible exact LeO.none _)
   | (with_reducible refine LeO.ite ?_ ?_)
   | (with_reducible refine LeO.bind ?_ (fun _ => ?_))
   | exact ih0 _ _ _ _
   | exact ih1 _ _ _
   | exact ih2 _ _ _
   | exact ih3 _ _ _ _
   | exact octavoref07_first.mono _ _ _
   | exact LeO.none _
   | refine LeO.ite ?_ ?_
   | refine LeO.bind ?_ (fun _ => ?_)
  ·intro y0 y1 y2 y3
   unfold octavoref07_Of.j3
   repeat' first
   | (with_reducible exact ih0 _ _ _ _)
   | (with_reducible exact ih1 _ _ _)
   | (with_reducible exact ih2 _ _ _)
   | (with_reducible exact ih3 _ _ _ _)
   | (with_reducible exact octavoref07_first.mono _ _ _)
   | (with_reducible exact LeO.refl _)
   | (with_reducible exact LeO.none _)
   | (with_reducible refine LeO.ite ?_ ?_)
   | (with_reducible refine LeO.bind ?_ (fun _ => ?_))
   | exact ih0 _ _ _ _
   | exact ih1 _ _ _
   | exact ih2 _ _ _
   | exact ih3 _ _ _ _
   | exact octavoref07_first.mono _ _ _
   | exact LeO.none _
   | refine LeO.ite ?_ ?_
   | refine LeO.bind ?_ (fun _ => ?_)
theorem octavoref07_Of.mono : ∀ a0 a1 a2 k, LeO (octavoref07_Of.f k a0 a1 a2) (octavoref07_Of.f (k + 1) a0 a1 a2) := by
 intro a0 a1 a2 k
 obtain ⟨ih0, ih1, ih2, ih3⟩ := octavoref07_Of.mono_l k
 unfold octavoref07_Of.f
 repeat' first
   | (with_reducible exact ih0 _ _ _ _)
   | (with_reducible exact ih1 _ _ _)
   | (with_reducible exact ih2 _ _ _)
   | (with_reducible exact ih3 _ _ _ _)
   | (with_reducible exact octavoref07_first.mono _ _ _)
   | (with_reducible exact LeO.refl _)
   | (with_reducible exact LeO.none _)
   | (with_reducible refine LeO.ite ?_ ?_)
   | (with_reducible refine LeO.bind ?_ (fun _ => ?_))
   | exact ih0 _ _ _ _
   | exact ih1 _ _ _
   | exact ih2 _ _ _
   | exact ih3 _ _ _ _
   | exact octavoref07_first.mono _ _ _
   | exact LeO.none _
   | refine LeO.ite ?_ ?_
   | refine LeO.bind ?_ (fun _ => ?_)
set_option maxHeartbeats 8000000 in
set_option maxRecDepth 100000 in
theorem octavoref07_Of.calls (k : Nat) (a0 : Int) (a1 : Int) (a2 : Int) (r1 : Int) (r2 : Bool) (w : World) (h : octavoref07_Of.f k a0 a1 a2 = some (r1, r2)) :
  Calls Tryz.prog 64 #[.int .i64 a0, .int .i64 a1, .int .i64 a2] w fun e w' => e = .returned (.tuple #[.int .i64 r1, .bool r2]) ∧ Drawn0 w w' := by
 have hu78 := Tryz.underlying78
 have H : (octavoref07_Of.l0 k a0 a1 a2 0) = some (r1, r2) := h
 clear h
 have H' := Aside0.mk H
 clear H
 go_enter Tryz.func64, Tryz.ntmps64
 go_wp2
 go_loopg [15] k (fun kq v15 w' => ∃ (x15_1 : Int), v15 = .int .i64 x15_1 ∧ Aside0 (octavoref07_Of.l0 kq a0 a1 a2 x15_1 = some (r1, r2)) ∧ Aside0 (kq ≤ k) ∧ Drawn0 w w')
 case atStart => exact ⟨(0), zrl, H', ⟨Nat.le_refl _⟩, zdn⟩
 case round =>
  clear H'
  try clear p2
  obtain ⟨x15_1, rfl, HA, HK1, ⟨m1, rfl⟩⟩ := hrel
  cases gk with
  | zero => exact absurd HA.out (by simp [octavoref07_Of.l0])
  | succ k1 =>
   have H := HA.out
   clear HA
   simp only [octavoref07_Of.l0] at H
   by_cases c4 : x15_1 < 3
   ·rw [if_pos c4] at H
    have c4b0 : decide (x15_1 < 3) = true := decide_eq_true c4
    clear c4
    by_cases c5 : 0 ≤ x15_1
    ·rw [if_pos c5] at H
     have c5b0 : decide (0 ≤ x15_1) = true := decide_eq_true c5
     clear c5
     by_cases c7 : (rd ([a0, a1, a2] : List Int) x15_1) < (-100000)
     ·rw [if_pos c7] at H
      have c7b0 : decide ((rd ([a0, a1, a2] : List Int) x15_1) < (-100000)) = true := decide_eq_true c7
      clear c7
      simp only [Option.some.injEq, Prod.mk.injEq] at H
      obtain ⟨rfl, rfl⟩ := H
      have p6 : 0 ≤ (x15_1 : Int) := of_decide_eq_true zas
      have q6 : x15_1 < (3 : Int) := of_decide_eq_true zas
      have hx6 : ∀ w_ : World, (Instr.index 78 (.agg #[.int .i64 a0, .int .i64 a1, .int .i64 a2]) (.int .i64 x15_1)).run Tryz.prog w_ = .ok (.int .i64 (rd ([a0, a1, a2] : List Int) x15_1)) w_ := fun w_ => X.run_index_array 78 3 3 _ _ _ _ (by kernel_rfl) (by kernel_rfl) (by kernel_rfl) p6 q6 (X.at_ints .i64 ([a0, a1, a2] : List Int) x15_1 q6 p6)
      replace p6 := eq_true p6
      replace q6 := eq_true q6
      go_wp2
      go_ret2
      exact ⟨zrl, zdn⟩
     ·rw [if_neg c7] at H
      have c7b0 : decide ((rd ([a0, a1, a2] : List Int) x15_1) < (-100000)) = false := decide_eq_false c7
      clear c7
      by_cases c8 : (rd ([a0, a1, a2] : List Int) x15_1) > 100000
      ·rw [if_pos c8] at H
       have c8b0 : decide (100000 < (rd ([a0, a1, a2] : List Int) x15_1)) = true := decide_eq_true c8
       clear c8
       simp only [Option.some.injEq, Prod.mk.injEq] at H
       obtain ⟨rfl, rfl⟩ := H
       have p6 : 0 ≤ (x15_1 : Int) := of_decide_eq_true zas
       have q6 : x15_1 < (3 : Int) := of_decide_eq_true zas
       have hx6 : ∀ w_ : World, (Instr.index 78 (.agg #[.int .i64 a0, .int .i64 a1, .int .i64 a2]) (.int .i64 x15_1)).run Tryz.prog w_ = .ok (.int .i64 (rd ([a0, a1, a2] : List Int) x15_1)) w_ := fun w_ => X.run_index_array 78 3 3 _ _ _ _ (by kernel_rfl) (by kernel_rfl) (by kernel_rfl) p6 q6 (X.at_ints .i64 ([a0, a1, a2] : List Int) x15_1 q6 p6)
       replace p6 := eq_true p6
       replace q6 := eq_true q6
       go_wp2
       go_ret2
       exact ⟨zrl, zdn⟩
      ·rw [if_neg c8] at H
       have c8b0 : decide (100000 < (rd ([a0, a1, a2] : List Int) x15_1)) = false := decide_eq_false c8
       clear c8
       have H' := Aside0.mk H
       clear H
       have p6 : 0 ≤ (x15_1 : Int) := of_decide_eq_true zas
       have q6 : x15_1 < (3 : Int) := of_decide_eq_true zas
       have hx6 : ∀ w_ : World, (Instr.index 78 (.agg #[.int .i64 a0, .int .i64 a1, .int .i64 a2]) (.int .i64 x15_1)).run Tryz.prog w_ = .ok (.int .i64 (rd ([a0, a1, a2] : List Int) x15_1)) w_ := fun w_ => X.run_index_array 78 3 3 _ _ _ _ (by kernel_rfl) (by kernel_rfl) (by kernel_rfl) p6 q6 (X.at_ints .i64 ([a0, a1, a2] : List Int) x15_1 q6 p6)
       replace p6 := eq_true p6
       replace q6 := eq_true q6
       go_wp2
       go_roundg k1
       case measure => have := HK1.out; omega
       case rel => exact ⟨(wrap64 (x15_1 + 1)), zrl, H', ⟨by have := HK1.out; omega⟩, zdn⟩
    ·rw [if_neg c5] at H
     exact absurd H (by simp)
   ·rw [if_neg c4] at H
    have c4b0 : decide (x15_1 < 3) = false := decide_eq_false c4
    clear c4
    have H' := Aside0.mk H
    clear H
    go_wp2
    go_loopg [0, 1] k1 (fun kq v0 v1 w' => ∃ (x0_2 : Int) (x1_2 : Int), v0 = .int .i64 x0_2 ∧ v1 = .int .i64 x1_2 ∧ Aside0 (octavoref07_Of.l1 kq x0_2 x1_2 a2 = some (r1, r2)) ∧ Aside0 (kq ≤ k1) ∧ Drawn0 w w')
    case atStart => exact ⟨(a0), (a1), zrl, zrl, H', ⟨Nat.le_refl _⟩, zdn⟩
    case round =>
     clear H'
     try clear p2
     try clear c4
     try clear c4b0
     try clear c5
     try clear c5b0
     try clear c6
     try clear p6
     try clear q6
     try clear hx6
     try clear c7
     try clear c7b0
     try clear c8
     try clear c8b0
     try clear p2
     try clear p6
     try clear q6
     obtain ⟨x0_2, x1_2, rfl, rfl, HA, HK2, ⟨m2, rfl⟩⟩ := hrel
     cases gk with
     | zero => exact absurd HA.out (by simp [octavoref07_Of.l1])
     | succ k2 =>
      have H := HA.out
      clear HA
      simp only [octavoref07_Of.l1] at H
      by_cases c9 : x1_2 < 1
      ·rw [if_pos c9] at H
       have c9b0 : decide (x1_2 < 1) = true := decide_eq_true c9
       clear c9
       have H' := Aside0.mk H
       clear H
       go_wp2
       go_roundg k2
       case measure => have := HK1.out; have := HK2.out; omega
       case rel => exact ⟨(wrap64 (x0_2 - 1)), (wrap64 (x1_2 + 12)), zrl, zrl, H', ⟨by have := HK1.out; have := HK2.out; omega⟩, zdn⟩
      ·rw [if_neg c9] at H
       have c9b0 : decide (x1_2 < 1) = false := decide_eq_false c9
       clear c9
       have H' := Aside0.mk H
       clear H
       go_wp2
       go_loopg [0, 1] k2 (fun kq v0 v1 w' => ∃ (x0_3 : Int) (x1_3 : Int), v0 = .int .i64 x0_3 ∧ v1 = .int .i64 x1_3 ∧ Aside0 (octavoref07_Of.l2 kq x0_3 x1_3 a2 = some (r1, r2)) ∧ Aside0 (kq ≤ k2) ∧ Drawn0 w w')
       case atStart => exact ⟨(x0_2), (x1_2), zrl, zrl, H', ⟨Nat.le_refl _⟩, zdn⟩
       case round =>
        clear H'
        try clear p2
        try clear c4
        try clear c4b0
        try clear c5
        try clear c5b0
        try clear c6
        try clear p6
        try clear q6
        try clear hx6
        try clear c7
        try clear c7b0
        try clear c8
        try clear c8b0
        try clear c9
        try clear c9b0
        try clear p2
        try clear p6
        try clear q6
        obtain ⟨x0_3, x1_3, rfl, rfl, HA, HK3, ⟨m3, rfl⟩⟩ := hrel
        cases gk with
        | zero => exact absurd HA.out (by simp [octavoref07_Of.l2])
        | succ k3 =>
         have H := HA.out
         clear HA
         simp only [octavoref07_Of.l2] at H
         by_cases c10 : x1_3 > 12
         ·rw [if_pos c10] at H
          have c10b0 : decide (12 < x1_3) = true := decide_eq_true c10
          clear c10
          have H' := Aside0.mk H
          clear H
          go_wp2
          go_roundg k3
          case measure => have := HK1.out; have := HK2.out; have := HK3.out; omega
          case rel => exact ⟨(wrap64 (x0_3 + 1)), (wrap64 (x1_3 - 12)), zrl, zrl, H', ⟨by have := HK1.out; have := HK2.out; have := HK3.out; omega⟩, zdn⟩
         ·rw [if_neg c10] at H
          have c10b0 : decide (12 < x1_3) = false := decide_eq_false c10
          clear c10
          have HC11 := Aside0.mk H
          clear H
          go_upto_region 13 with (fail)
          go_cut [42] (fun v42 wc => ∃ (kq : Nat) (x42_10 : Bool), v42 = .bool x42_10 ∧ Aside0 (octavoref07_Of.j3 kq x0_3 x1_3 a2 x42_10 = some (r1, r2)) ∧ Aside0 (kq ≤ k3) ∧ Drawn0 w wc)
          case first =>
           have H := HC11.out
           clear HC11
           by_cases c12 : x0_3 < 1900
           ·rw [if_pos c12] at H
            have c12b0 : decide (x0_3 < 1900) = true := decide_eq_true c12
            clear c12
            (first | rw [c12b0] | (simp only [i64_w, i32_w]; rw [c12b0]) | skip)
            have H' := Aside0.mk H
            clear H
            go_wp2
            go_meet
            case rel => exact ⟨_, (true), zrl, H', ⟨by have := HK1.out; have := HK2.out; have := HK3.out; first | omega | exact Nat.le_refl _⟩, zdn⟩
           ·rw [if_neg c12] at H
            have c12b0 : decide (x0_3 < 1900) = false := decide_eq_false c12
            clear c12
            (first | rw [c12b0] | (simp only [i64_w, i32_w]; rw [c12b0]) | skip)
            have H' := Aside0.mk H
            clear H
            go_wp2
            go_meet
            case rel => exact ⟨_, (decide (x0_3 > 9999)), zrl, H', ⟨by have := HK1.out; have := HK2.out; have := HK3.out; first | omega | exact Nat.le_refl _⟩, zdn⟩
          case rest =>
           clear HC11
           try clear c1
           try clear p2
           try clear c4
           try clear c4b0
           try clear c5
           try clear c5b0
           try clear c6
           try clear p6
           try clear q6
           try clear hx6
           try clear c7
           try clear c7b0
           try clear c8
           try clear c8b0
           try clear c9
           try clear c9b0
           try clear c10
           try clear c10b0
           try clear c12
           try clear c12b0
           try clear p2
           try clear p6
           try clear q6
           obtain ⟨kq, x42_10, rfl, HA, HJ10, ⟨mc10, rfl⟩⟩ := hcut
           cases kq with
           | zero => exact absurd HA.out (by simp [octavoref07_Of.j3])
           | succ kj10 =>
            have H := HA.out
            clear HA
            simp only [octavoref07_Of.j3] at H
            by_cases c13 : x42_10 = true
            ·subst c13
             have H1 : (some (0, false)) = some (r1, r2) := by rw [if_pos rfl] at H; exact H
             clear H
             have H := H1
             clear H1
             simp only [Option.some.injEq, Prod.mk.injEq] at H
             obtain ⟨rfl, rfl⟩ := H
             go_wp2
             go_ret2
             exact ⟨zrl, zdn⟩
            ·replace c13 := Bool.eq_false_iff.mpr c13
             subst c13
             have H1 : ((octavoref07_first.f kj10 x0_3 x1_3).bind fun t200 => (if (wrap64 (t200 + a2)) < 1 then (some (0, false)) else (if (wrap64 (t200 + a2)) > 2958464 then (some (0, false)) else (some (wrap64 (t200 + a2), true))))) = some (r1, r2) := by rw [if_neg (show ¬ (false = true) by decide)] at H; exact H
             clear H
             have H := H1
             clear H1
             replace H := Option.bind_eq_some_iff.mp H
             obtain ⟨t200, A140, H⟩ := H
             replace H : (if (wrap64 (t200 + a2)) < 1 then (some (0, false)) else (if (wrap64 (t200 + a2)) > 2958464 then (some (0, false)) else (some (wrap64 (t200 + a2), true)))) = some (r1, r2) := H
             have A14 := Aside0.mk A140
             clear A140
             by_cases c15 : (wrap64 (t200 + a2)) < 1
             ·rw [if_pos c15] at H
              have c15b0 : decide ((wrap64 (t200 + a2)) < 1) = true := decide_eq_true c15
              clear c15
              simp only [Option.some.injEq, Prod.mk.injEq] at H
              obtain ⟨rfl, rfl⟩ := H
              go_wp2_with (first | ((with_reducible refine gate_callee (f := 108) rfl ?_); refine goesL_ (some 45) rfl rfl Tryz.func108 (by kernel_rfl) rfl #[.int .i64 x0_3, .int .i64 x1_3] rfl (by (try simp only [List.map_toArray, List.map_cons, List.map_nil]); first | done | rfl | (simp only [List.length_drop, List.length_take]; rfl)) ?_; (with_reducible refine (octavoref07_first.calls kj10 x0_3 x1_3 t200 _ A14.out).mono ?_); rintro e w' ⟨rfl, ⟨nd, rfl⟩⟩; refine ⟨_, rfl, ?_⟩))
              go_ret2
              exact ⟨zrl, zdn⟩
             ·rw [if_neg c15] at H
              have c15b0 : decide ((wrap64 (t200 + a2)) < 1) = false := decide_eq_false c15
              clear c15
              by_cases c16 : (wrap64 (t200 + a2)) > 2958464
              ·rw [if_pos c16] at H
               have c16b0 : decide (2958464 < (wrap64 (t200 + a2))) = true := decide_eq_true c16
               clear c16
               simp only [Option.some.injEq, Prod.mk.injEq] at H
               obtain ⟨rfl, rfl⟩ := H
               go_wp2_with (first | ((with_reducible refine gate_callee (f := 108) rfl ?_); refine goesL_ (some 45) rfl rfl Tryz.func108 (by kernel_rfl) rfl #[.int .i64 x0_3, .int .i64 x1_3] rfl (by (try simp only [List.map_toArray, List.map_cons, List.map_nil]); first | done | rfl | (simp only [List.length_drop, List.length_take]; rfl)) ?_; (with_reducible refine (octavoref07_first.calls kj10 x0_3 x1_3 t200 _ A14.out).mono ?_); rintro e w' ⟨rfl, ⟨nd, rfl⟩⟩; refine ⟨_, rfl, ?_⟩))
               go_ret2
               exact ⟨zrl, zdn⟩
              ·rw [if_neg c16] at H
               have c16b0 : decide (2958464 < (wrap64 (t200 + a2))) = false := decide_eq_false c16
               clear c16
               simp only [Option.some.injEq, Prod.mk.injEq] at H
               obtain ⟨rfl, rfl⟩ := H
               go_wp2_with (first | ((with_reducible refine gate_callee (f := 108) rfl ?_); refine goesL_ (some 45) rfl rfl Tryz.func108 (by kernel_rfl) rfl #[.int .i64 x0_3, .int .i64 x1_3] rfl (by (try simp only [List.map_toArray, List.map_cons, List.map_nil]); first | done | rfl | (simp only [List.length_drop, List.length_take]; rfl)) ?_; (with_reducible refine (octavoref07_first.calls kj10 x0_3 x1_3 t200 _ A14.out).mono ?_); rintro e w' ⟨rfl, ⟨nd, rfl⟩⟩; refine ⟨_, rfl, ?_⟩))
               go_ret2
               exact ⟨zrl, zdn⟩
def octavoref07_number.l0 : Nat → ByteArray → Int → Int → Option (Int)
 | 0, _, _, _ => none
 | k + 1, x0, x3, x4 => if x4 < (x0.size : Int) then (if 0 ≤ x4 then (if (bt x0 x4) < 48 then (some (-1)) else (if (bt x0 x4) > 57 then (some (-1)) else (octavoref07_number.l0 k x0 (wrap64 ((wrap64 (10 * x3)) + (((bt x0 x4) - 48) % 256))) (wrap64 (x4 + 1))))) else (none)) else (some x3)
def octavoref07_number.f (k : Nat) (a0 : ByteArray) : Option (Int) := octavoref07_number.l0 k a0 0 0
theorem octavoref07_number.mono_l : ∀ k, (∀ y0 y1 y2, LeO (octavoref07_number.l0 k y0 y1 y2) (octavoref07_number.l0 (k + 1) y0 y1 y2))
 | 0 => fun _ _ _ r h => by simp [octavoref07_number.l0] at h
 | k + 1 => by
  have ih0 := octavoref07_number.mono_l k
  ·intro y0 y1 y2
   unfold octavoref07_number.l0
   repeat' first
   | (with_reducible exact ih0 _ _ _)
   | (with_reducible exact LeO.refl _)
   | (with_reducible exact LeO.none _)
   | (with_reducible refine LeO.ite ?_ ?_)
   | (with_reducible refine LeO.bind ?_ (fun _ => ?_))
   | exact ih0 _ _ _
   | exact LeO.none _
   | refine LeO.ite ?_ ?_
   | refine LeO.bind ?_ (fun _ => ?_)
theorem octavoref07_number.mono : ∀ a0 k, LeO (octavoref07_number.f k a0) (octavoref07_number.f (k + 1) a0) := by
 intro a0 k
 have ih0 := octavoref07_number.mono_l k
 unfold octavoref07_number.f
 repeat' first
   | (with_reducible exact ih0 _ _ _)
   | (with_reducible exact LeO.refl _)
   | (with_reducible exact LeO.none _)
   | (with_reducible refine LeO.ite ?_ ?_)
   | (with_reducible refine LeO.bind ?_ (fun _ => ?_))
   | exact ih0 _ _ _
   | exact LeO.none _
   | refine LeO.ite ?_ ?_
   | refine LeO.bind ?_ (fun _ => ?_)
set_option maxHeartbeats 8000000 in
set_option maxRecDepth 100000 in
theorem octavoref07_number.calls (k : Nat) (a0 : ByteArray) (r : Int) (w : World) (h : octavoref07_number.f k a0 = some r) :
  Calls Tryz.prog 67 #[.string a0] w fun e w' => e = .returned (.int .i64 r) ∧ Drawn0 w w' := by
 have H : (octavoref07_number.l0 k a0 0 0) = some r := h
 clear h
 have H' := Aside0.mk H
 clear H
 go_enter Tryz.func67, Tryz.ntmps67
 go_wp2
 go_loopg [3, 4] k (fun kq v3 v4 w' => ∃ (x3_1 : Int) (x4_1 : Int), v3 = .int .i64 x3_1 ∧ v4 = .int .i64 x4_1 ∧ Aside0 (octavoref07_number.l0 kq a0 x3_1 x4_1 = some r) ∧ Aside0 (kq ≤ k) ∧ Drawn0 w w')
 case atStart => exact ⟨(0), (0), zrl, zrl, H', ⟨Nat.le_refl _⟩, zdn⟩
 case round =>
  clear H'
  obtain ⟨x3_1, x4_1, rfl, rfl, HA, HK1, ⟨m1, rfl⟩⟩ := hrel
  cases gk with
  | zero => exact absurd HA.out (by simp [octavoref07_number.l0])
  | succ k1 =>
   have H := HA.out
   clear HA
   simp only [octavoref07_number.l0] at H
   by_cases c2 : x4_1 < (a0.size : Int)
   ·rw [if_pos c2] at H
    have c2b0 : decide (x4_1 < (a0.size : Int)) = true := decide_eq_true c2
    clear c2
    by_cases c3 : 0 ≤ x4_1
    ·rw [if_pos c3] at H
     have c3b0 : decide (0 ≤ x4_1) = true := decide_eq_true c3
     clear c3
     by_cases c5 : (bt a0 x4_1) < 48
     ·rw [if_pos c5] at H
      have c5b0 : decide ((bt a0 x4_1) < 48) = true := decide_eq_true c5
      clear c5
      obtain rfl := Option.some.inj H
      have p4 : 0 ≤ (x4_1 : Int) := of_decide_eq_true zas
      have q4 : x4_1 < (a0.size : Int) := of_decide_eq_true zas
      have hx4 := bt_at a0 x4_1
      replace p4 := eq_true p4
      replace q4 := eq_true q4
      go_wp2
      go_ret
      exact ⟨zrl, zdn⟩
     ·rw [if_neg c5] at H
      have c5b0 : decide ((bt a0 x4_1) < 48) = false := decide_eq_false c5
      clear c5
      by_cases c7 : (bt a0 x4_1) > 57
      ·rw [if_pos c7] at H
       have c7b0 : decide (57 < (bt a0 x4_1)) = true := decide_eq_true c7
       clear c7
       obtain rfl := Option.some.inj H
       have p4 : 0 ≤ (x4_1 : Int) := of_decide_eq_true zas
       have q4 : x4_1 < (a0.size : Int) := of_decide_eq_true zas
       have hx4 := bt_at a0 x4_1
       replace p4 := eq_true p4
       replace q4 := eq_true q4
       have p6 : 0 ≤ (x4_1 : Int) := of_decide_eq_true zas
       have q6 : x4_1 < (a0.size : Int) := of_decide_eq_true zas
       have hx6 := bt_at a0 x4_1
       replace p6 := eq_true p6
       replace q6 := eq_true q6
       go_wp2
       go_ret
       exact ⟨zrl, zdn⟩
      ·rw [if_neg c7] at H
       have c7b0 : decide (57 < (bt a0 x4_1)) = false := decide_eq_false c7
       clear c7
       have H' := Aside0.mk H
       clear H
       have p4 : 0 ≤ (x4_1 : Int) := of_decide_eq_true zas
       have q4 : x4_1 < (a0.size : Int) := of_decide_eq_true zas
       have hx4 := bt_at a0 x4_1
       replace p4 := eq_true p4
       replace q4 := eq_true q4
       have p6 : 0 ≤ (x4_1 : Int) := of_decide_eq_true zas
       have q6 : x4_1 < (a0.size : Int) := of_decide_eq_true zas
       have hx6 := bt_at a0 x4_1
       replace p6 := eq_true p6
       replace q6 := eq_true q6
       have p8 : 0 ≤ (x4_1 : Int) := of_decide_eq_true zas
       have q8 : x4_1 < (a0.size : Int) := of_decide_eq_true zas
       have hx8 := bt_at a0 x4_1
       replace p8 := eq_true p8
       replace q8 := eq_true q8
       go_wp2
       go_roundg k1
       case measure => have := HK1.out; omega
       case rel => exact ⟨(wrap64 ((wrap64 (10 * x3_1)) + (((bt a0 x4_1) - 48) % 256))), (wrap64 (x4_1 + 1)), zrl, zrl, H', ⟨by have := HK1.out; omega⟩, zdn⟩
    ·rw [if_neg c3] at H
     exact absurd H (by simp)
   ·rw [if_neg c2] at H
    have c2b0 : decide (x4_1 < (a0.size : Int)) = false := decide_eq_false c2
    clear c2
    obtain rfl := Option.some.inj H
    go_wp2
    go_ret
    exact ⟨zrl, zdn⟩
def octavoref07_Parse.j0 : Nat → ByteArray → Bool → Option (Int × Bool)
 | 0, _, _ => none
 | k + 1, x0, x19 => if x19 = true then (some (0, false)) else (if 0 ≤ 4 then (if 4 ≤ (x0.size : Int) then ((octavoref07_number.f k (x0.extract 0 4)).bind fun t201 => (if 5 ≤ 7 then (if 7 ≤ (x0.size : Int) then ((octavoref07_number.f k (x0.extract 5 7)).bind fun t202 => (if 8 ≤ (x0.size : Int) then ((octavoref07_number.f k (x0.extract 8 x0.size)).bind fun t203 => (if t201 < 0 then (some (0, false)) else (if t202 < 0 then (some (0, false)) else (if t203 < 0 then (some (0, false)) else ((octavoref07_Day.f k t201 t202 t203).bind fun bt204 => (some (bt204.1, bt204.2))))))) else (none))) else (none)) else (none))) else (none)) else (none))
def octavoref07_Parse.f (k : Nat) (a0 : ByteArray) : Option (Int × Bool) := if (a0.size : Int) = 10 then (if 4 < (a0.size : Int) then (if (bt a0 4) = 45 then (if 7 < (a0.size : Int) then (octavoref07_Parse.j0 k a0 ((bt a0 7) != 45)) else (none)) else (octavoref07_Parse.j0 k a0 true)) else (none)) else (octavoref07_Parse.j0 k a0 true)
theorem octavoref07_Parse.mono_l : ∀ k, (∀ y0 y1, LeO (octavoref07_Parse.j0 k y0 y1) (octavoref07_Parse.j0 (k + 1) y0 y1))
 | 0 => fun _ _ r h => by simp [octavoref07_Parse.j0] at h
 | k + 1 => by
  have ih0 := octavoref07_Parse.mono_l k
  ·intro y0 y1
   unfold octavoref07_Parse.j0
   repeat' first
   | (with_reducible exact ih0 _ _)
   | (with_reducible exact octavoref07_Day.mono _ _ _ _)
   | (with_reducible exact octavoref07_number.mono _ _)
   | (with_reducible exact LeO.refl _)
   | (with_reducible exact LeO.none _)
   | (with_reducible refine LeO.ite ?_ ?_)
   | (with_reducible refine LeO.bind ?_ (fun _ => ?_))
   | exact ih0 _ _
   | exact octavoref07_Day.mono _ _ _ _
   | exact octavoref07_number.mono _ _
   | exact LeO.none _
   | refine LeO.ite ?_ ?_
   | refine LeO.bind ?_ (fun _ => ?_)
theorem octavoref07_Parse.mono : ∀ a0 k, LeO (octavoref07_Parse.f k a0) (octavoref07_Parse.f (k + 1) a0) := by
 intro a0 k
 have ih0 := octavoref07_Parse.mono_l k
 unfold octavoref07_Parse.f
 repeat' first
   | (with_reducible exact ih0 _ _)
   | (with_reducible exact octavoref07_Day.mono _ _ _ _)
   | (with_reducible exact octavoref07_number.mono _ _)
   | (with_reducible exact LeO.refl _)
   | (with_reducible exact LeO.none _)
   | (with_reducible refine LeO.ite ?_ ?_)
   | (with_reducible refine LeO.bind ?_ (fun _ => ?_))
   | exact ih0 _ _
   | exact octavoref07_Day.mono _ _ _ _
   | exact octavoref07_number.mono _ _
   | exact LeO.none _
   | refine LeO.ite ?_ ?_
   | refine LeO.bind ?_ (fun _ => ?_)
set_option maxHeartbeats 8000000 in
set_option maxRecDepth 100000 in
theorem octavoref07_Parse.calls (k : Nat) (a0 : ByteArray) (r1 : Int) (r2 : Bool) (w : World) (h : octavoref07_Parse.f k a0 = some (r1, r2)) :
  Calls Tryz.prog 31 #[.string a0] w fun e w' => e = .returned (.tuple #[.int .i64 r1, .bool r2]) ∧ Drawn0 w w' := by
 have H : (if (a0.size : Int) = 10 then (if 4 < (a0.size : Int) then (if (bt a0 4) = 45 then (if 7 < (a0.size : Int) then (octavoref07_Parse.j0 k a0 ((bt a0 7) != 45)) else (none)) else (octavoref07_Parse.j0 k a0 true)) else (none)) else (octavoref07_Parse.j0 k a0 true)) = some (r1, r2) := h
 clear h
 have HC2 := Aside0.mk H
 clear H
 go_enter Tryz.func31, Tryz.ntmps31
 go_upto_region 1 with (fail)
 repeat (go_quiet (fail); go_upto_region 1 with (fail))
 go_cut [19] (fun v19 wc => ∃ (kq : Nat) (x19_1 : Bool), v19 = .bool x19_1 ∧ Aside0 (octavoref07_Parse.j0 kq a0 x19_1 = some (r1, r2)) ∧ Aside0 (kq ≤ k) ∧ Drawn0 w wc)
 case first =>
  have H := HC2.out
  clear HC2
  by_cases c3 : (a0.size : Int) = 10
  ·rw [if_pos c3] at H
   have c3b0 : ((a0.size : Int) == 10) = true := beq_iff_eq.mpr c3
   have c3b1 : ((a0.size : Int) != 10) = false := bne_eq_false_iff_eq.mpr c3
   clear c3
   (first | rw [c3b0] | (simp only [i64_w, i32_w]; rw [c3b0]) | skip)
   by_cases c4 : 4 < (a0.size : Int)
   ·rw [if_pos c4] at H
    have c4b0 : decide (4 < (a0.size : Int)) = true := decide_eq_true c4
    have c4b1 : decide (4 < a0.size) = true := decide_eq_true (by omega)
    clear c4
    by_cases c6 : (bt a0 4) = 45
    ·rw [if_pos c6] at H
     have c6b0 : ((bt a0 4) == 45) = true := beq_iff_eq.mpr c6
     have c6b1 : ((bt a0 4) != 45) = false := bne_eq_false_iff_eq.mpr c6
     clear c6
     by_cases c7 : 7 < (a0.size : Int)
     ·rw [if_pos c7] at H
      have c7b0 : decide (7 < (a0.size : Int)) = true := decide_eq_true c7
      have c7b1 : decide (7 < a0.size) = true := decide_eq_true (by omega)
      clear c7
      have H' := Aside0.mk H
      clear H
      have p5 : 0 ≤ (4 : Int) := (by omega)
      have q5 : 4 < a0.size := (by have : (4 : Int) < (a0.size : Int) := of_decide_eq_true zas; omega)
      have hx5 : ∀ h : 4 < a0.size, ((a0[4]'h).toNat : Int) = bt a0 4 := bt_at a0 4
      clear p5
      have qi5 : (4 < (a0.size : Int)) = True := eq_true (of_decide_eq_true zas)
      replace q5 := eq_true q5
      have p8 : 0 ≤ (7 : Int) := (by omega)
      have q8 : 7 < a0.size := (by have : (7 : Int) < (a0.size : Int) := of_decide_eq_true zas; omega)
      have hx8 : ∀ h : 7 < a0.size, ((a0[7]'h).toNat : Int) = bt a0 7 := bt_at a0 7
      clear p8
      have qi8 : (7 < (a0.size : Int)) = True := eq_true (of_decide_eq_true zas)
      replace q8 := eq_true q8
      go_wp2
      repeat (go_quiet (fail); try go_wp2)
      go_meet
      case rel => exact ⟨_, (((bt a0 7) != 45)), zrl, H', ⟨by first | omega | exact Nat.le_refl _⟩, zdn⟩
     ·rw [if_neg c7] at H
      exact absurd H (by simp)
    ·rw [if_neg c6] at H
     have c6b0 : ((bt a0 4) == 45) = false := beq_eq_false_iff_ne.mpr c6
     have c6b1 : ((bt a0 4) != 45) = true := bne_iff_ne.mpr c6
     have H' := Aside0.mk H
     clear H
     have p5 : 0 ≤ (4 : Int) := (by omega)
     have q5 : 4 < a0.size := (by have : (4 : Int) < (a0.size : Int) := of_decide_eq_true zas; omega)
     have hx5 : ∀ h : 4 < a0.size, ((a0[4]'h).toNat : Int) = bt a0 4 := bt_at a0 4
     clear p5
     have qi5 : (4 < (a0.size : Int)) = True := eq_true (of_decide_eq_true zas)
     replace q5 := eq_true q5
     go_wp2
     repeat (go_quiet (fail); try go_wp2)
     go_meet
     case rel => exact ⟨_, (true), zrl, H', ⟨by first | omega | exact Nat.le_refl _⟩, zdn⟩
   ·rw [if_neg c4] at H
    exact absurd H (by simp)
  ·rw [if_neg c3] at H
   have c3b0 : ((a0.size : Int) == 10) = false := beq_eq_false_iff_ne.mpr c3
   have c3b1 : ((a0.size : Int) != 10) = true := bne_iff_ne.mpr c3
   (first | rw [c3b0] | (simp only [i64_w, i32_w]; rw [c3b0]) | skip)
   have H' := Aside0.mk H
   clear H
   go_wp2
   repeat (go_quiet (fail); try go_wp2)
   go_meet
   case rel => exact ⟨_, (true), zrl, H', ⟨by first | omega | exact Nat.le_refl _⟩, zdn⟩
 case rest =>
  clear HC2
  try clear p2
  try clear c3
  try clear c3b0
  try clear c3b1
  try clear c4
  try clear c4b0
  try clear c4b1
  try clear p5
  try clear q5
  try clear hx5
  try clear qi5
  try clear c6
  try clear c6b0
  try clear c6b1
  try clear c7
  try clear c7b0
  try clear c7b1
  try clear p8
  try clear q8
  try clear hx8
  try clear qi8
  try clear p5
  try clear p8
  try clear q5
  try clear q8
  obtain ⟨kq, x19_1, rfl, HA, HJ1, ⟨mc1, rfl⟩⟩ := hcut
  cases kq with
  | zero => exact absurd HA.out (by simp [octavoref07_Parse.j0])
  | succ kj1 =>
   have H := HA.out
   clear HA
   simp only [octavoref07_Parse.j0] at H
   by_cases c9 : x19_1 = true
   ·subst c9
    have H1 : (some (0, false)) = some (r1, r2) := by rw [if_pos rfl] at H; exact H
    clear H
    have H := H1
    clear H1
    simp only [Option.some.injEq, Prod.mk.injEq] at H
    obtain ⟨rfl, rfl⟩ := H
    go_wp2
    repeat (go_quiet (fail); try go_wp2)
    go_ret2
    exact ⟨zrl, zdn⟩
   ·replace c9 := Bool.eq_false_iff.mpr c9
    subst c9
    have H1 : (if 0 ≤ 4 then (if 4 ≤ (a0.size : Int) then ((octavoref07_number.f kj1 (a0.extract 0 4)).bind fun t201 => (if 5 ≤ 7 then (if 7 ≤ (a0.size : Int) then ((octavoref07_number.f kj1 (a0.extract 5 7)).bind fun t202 => (if 8 ≤ (a0.size : Int) then ((octavoref07_number.f kj1 (a0.extract 8 a0.size)).bind fun t203 => (if t201 < 0 then (some (0, false)) else (if t202 < 0 then (some (0, false)) else (if t203 < 0 then (some (0, false)) else ((octavoref07_Day.f kj1 t201 t202 t203).bind fun bt204 => (some (bt204.1, bt204.2))))))) else (none))) else (none)) else (none))) else (none)) else (none)) = some (r1, r2) := by rw [if_neg (show ¬ (false = true) by decide)] at H; exact H
    clear H
    have H := H1
    clear H1
    by_cases c10 : 0 ≤ 4
    ·rw [if_pos c10] at H
     have c10b0 := eq_true c10
     have c10b1 : decide (0 ≤ 4) = true := decide_eq_true c10
     clear c10
     by_cases c11 : 4 ≤ (a0.size : Int)
     ·rw [if_pos c11] at H
      have c11b0 := eq_true c11
      have c11b1 : decide (4 ≤ (a0.size : Int)) = true := decide_eq_true c11
      clear c11
      replace H := Option.bind_eq_some_iff.mp H
      obtain ⟨t201, A120, H⟩ := H
      replace H : (if 5 ≤ 7 then (if 7 ≤ (a0.size : Int) then ((octavoref07_number.f kj1 (a0.extract 5 7)).bind fun t202 => (if 8 ≤ (a0.size : Int) then ((octavoref07_number.f kj1 (a0.extract 8 a0.size)).bind fun t203 => (if t201 < 0 then (some (0, false)) else (if t202 < 0 then (some (0, false)) else (if t203 < 0 then (some (0, false)) else ((octavoref07_Day.f kj1 t201 t202 t203).bind fun bt204 => (some (bt204.1, bt204.2))))))) else (none))) else (none)) else (none)) = some (r1, r2) := H
      have A12 := Aside0.mk A120
      clear A120
      by_cases c13 : 5 ≤ 7
      ·rw [if_pos c13] at H
       have c13b0 := eq_true c13
       have c13b1 : decide (5 ≤ 7) = true := decide_eq_true c13
       clear c13
       by_cases c14 : 7 ≤ (a0.size : Int)
       ·rw [if_pos c14] at H
        have c14b0 := eq_true c14
        have c14b1 : decide (7 ≤ (a0.size : Int)) = true := decide_eq_true c14
        clear c14
        replace H := Option.bind_eq_some_iff.mp H
        obtain ⟨t202, A150, H⟩ := H
        replace H : (if 8 ≤ (a0.size : Int) then ((octavoref07_number.f kj1 (a0.extract 8 a0.size)).bind fun t203 => (if t201 < 0 then (some (0, false)) else (if t202 < 0 then (some (0, false)) else (if t203 < 0 then (some (0, false)) else ((octavoref07_Day.f kj1 t201 t202 t203).bind fun bt204 => (some (bt204.1, bt204.2))))))) else (none)) = some (r1, r2) := H
        have A15 := Aside0.mk A150
        clear A150
        by_cases c16 : 8 ≤ (a0.size : Int)
        ·rw [if_pos c16] at H
         have c16b0 := eq_true c16
         have c16b1 : decide (8 ≤ (a0.size : Int)) = true := decide_eq_true c16
         clear c16
         replace H := Option.bind_eq_some_iff.mp H
         obtain ⟨t203, A170, H⟩ := H
         replace H : (if t201 < 0 then (some (0, false)) else (if t202 < 0 then (some (0, false)) else (if t203 < 0 then (some (0, false)) else ((octavoref07_Day.f kj1 t201 t202 t203).bind fun bt204 => (some (bt204.1, bt204.2)))))) = some (r1, r2) := H
         have A17 := Aside0.mk A170
         clear A170
         by_cases c18 : t201 < 0
         ·rw [if_pos c18] at H
          have c18b0 : decide (t201 < 0) = true := decide_eq_true c18
          clear c18
          simp only [Option.some.injEq, Prod.mk.injEq] at H
          obtain ⟨rfl, rfl⟩ := H
          go_wp2_with (first | (go_at_call 67; (with_reducible refine (octavoref07_number.calls kj1 (a0.extract 0 4) t201 _ A12.out).mono ?_); rintro e w' ⟨rfl, ⟨nd, rfl⟩⟩; (try first | exact ⟨rfl, _, World.drewN_drewN _ _ _⟩ | exact ⟨rfl, _, Eq.trans (World.drewN_drewN _ _ _) (congrArg (World.drewN _) (Nat.add_assoc _ _ _))⟩)) | (go_at_call 67; (with_reducible refine (octavoref07_number.calls kj1 (a0.extract 5 7) t202 _ A15.out).mono ?_); rintro e w' ⟨rfl, ⟨nd, rfl⟩⟩; (try first | exact ⟨rfl, _, World.drewN_drewN _ _ _⟩ | exact ⟨rfl, _, Eq.trans (World.drewN_drewN _ _ _) (congrArg (World.drewN _) (Nat.add_assoc _ _ _))⟩)) | (go_at_call 67; (with_reducible refine (octavoref07_number.calls kj1 (a0.extract 8 a0.size) t203 _ A17.out).mono ?_); rintro e w' ⟨rfl, ⟨nd, rfl⟩⟩; (try first | exact ⟨rfl, _, World.drewN_drewN _ _ _⟩ | exact ⟨rfl, _, Eq.trans (World.drewN_drewN _ _ _) (congrArg (World.drewN _) (Nat.add_assoc _ _ _))⟩)))
          repeat (go_quiet (first | (go_at_call 67; (with_reducible refine (octavoref07_number.calls kj1 (a0.extract 0 4) t201 _ A12.out).mono ?_); rintro e w' ⟨rfl, ⟨nd, rfl⟩⟩; (try first | exact ⟨rfl, _, World.drewN_drewN _ _ _⟩ | exact ⟨rfl, _, Eq.trans (World.drewN_drewN _ _ _) (congrArg (World.drewN _) (Nat.add_assoc _ _ _))⟩)) | (go_at_call 67; (with_reducible refine (octavoref07_number.calls kj1 (a0.extract 5 7) t202 _ A15.out).mono ?_); rintro e w' ⟨rfl, ⟨nd, rfl⟩⟩; (try first | exact ⟨rfl, _, World.drewN_drewN _ _ _⟩ | exact ⟨rfl, _, Eq.trans (World.drewN_drewN _ _ _) (congrArg (World.drewN _) (Nat.add_assoc _ _ _))⟩)) | (go_at_call 67; (with_reducible refine (octavoref07_number.calls kj1 (a0.extract 8 a0.size) t203 _ A17.out).mono ?_); rintro e w' ⟨rfl, ⟨nd, rfl⟩⟩; (try first | exact ⟨rfl, _, World.drewN_drewN _ _ _⟩ | exact ⟨rfl, _, Eq.trans (World.drewN_drewN _ _ _) (congrArg (World.drewN _) (Nat.add_assoc _ _ _))⟩))); try go_wp2_with (first | (go_at_call 67; (with_reducible refine (octavoref07_number.calls kj1 (a0.extract 0 4) t201 _ A12.out).mono ?_); rintro e w' ⟨rfl, ⟨nd, rfl⟩⟩; (try first | exact ⟨rfl, _, World.drewN_drewN _ _ _⟩ | exact ⟨rfl, _, Eq.trans (World.drewN_drewN _ _ _) (congrArg (World.drewN _) (Nat.add_assoc _ _ _))⟩)) | (go_at_call 67; (with_reducible refine (octavoref07_number.calls kj1 (a0.extract 5 7) t202 _ A15.out).mono ?_); rintro e w' ⟨rfl, ⟨nd, rfl⟩⟩; (try first | exact ⟨rfl, _, World.drewN_drewN _ _ _⟩ | exact ⟨rfl, _, Eq.trans (World.drewN_drewN _ _ _) (congrArg (World.drewN _) (Nat.add_assoc _ _ _))⟩)) | (go_at_call 67; (with_reducible refine (octavoref07_number.calls kj1 (a0.extract 8 a0.size) t203 _ A17.out).mono ?_); rintro e w' ⟨rfl, ⟨nd, rfl⟩⟩; (try first | exact ⟨rfl, _, World.drewN_drewN _ _ _⟩ | exact ⟨rfl, _, Eq.trans (World.drewN_drewN _ _ _) (congrArg (World.drewN _) (Nat.add_assoc _ _ _))⟩))))
          go_ret2
          exact ⟨zrl, zdn⟩
         ·rw [if_neg c18] at H
          have c18b0 : decide (t201 < 0) = false := decide_eq_false c18
          clear c18
          by_cases c19 : t202 < 0
          ·rw [if_pos c19] at H
           have c19b0 : decide (t202 < 0) = true := decide_eq_true c19
           clear c19
           simp only [Option.some.injEq, Prod.mk.injEq] at H
           obtain ⟨rfl, rfl⟩ := H
           go_wp2_with (first | (go_at_call 67; (with_reducible refine (octavoref07_number.calls kj1 (a0.extract 0 4) t201 _ A12.out).mono ?_); rintro e w' ⟨rfl, ⟨nd, rfl⟩⟩; (try first | exact ⟨rfl, _, World.drewN_drewN _ _ _⟩ | exact ⟨rfl, _, Eq.trans (World.drewN_drewN _ _ _) (congrArg (World.drewN _) (Nat.add_assoc _ _ _))⟩)) | (go_at_call 67; (with_reducible refine (octavoref07_number.calls kj1 (a0.extract 5 7) t202 _ A15.out).mono ?_); rintro e w' ⟨rfl, ⟨nd, rfl⟩⟩; (try first | exact ⟨rfl, _, World.drewN_drewN _ _ _⟩ | exact ⟨rfl, _, Eq.trans (World.drewN_drewN _ _ _) (congrArg (World.drewN _) (Nat.add_assoc _ _ _))⟩)) | (go_at_call 67; (with_reducible refine (octavoref07_number.calls kj1 (a0.extract 8 a0.size) t203 _ A17.out).mono ?_); rintro e w' ⟨rfl, ⟨nd, rfl⟩⟩; (try first | exact ⟨rfl, _, World.drewN_drewN _ _ _⟩ | exact ⟨rfl, _, Eq.trans (World.drewN_drewN _ _ _) (congrArg (World.drewN _) (Nat.add_assoc _ _ _))⟩)))
           repeat (go_quiet (first | (go_at_call 67; (with_reducible refine (octavoref07_number.calls kj1 (a0.extract 0 4) t201 _ A12.out).mono ?_); rintro e w' ⟨rfl, ⟨nd, rfl⟩⟩; (try first | exact ⟨rfl, _, World.drewN_drewN _ _ _⟩ | exact ⟨rfl, _, Eq.trans (World.drewN_drewN _ _ _) (congrArg (World.drewN _) (Nat.add_assoc _ _ _))⟩)) | (go_at_call 67; (with_reducible refine (octavoref07_number.calls kj1 (a0.extract 5 7) t202 _ A15.out).mono ?_); rintro e w' ⟨rfl, ⟨nd, rfl⟩⟩; (try first | exact ⟨rfl, _, World.drewN_drewN _ _ _⟩ | exact ⟨rfl, _, Eq.trans (World.drewN_drewN _ _ _) (congrArg (World.drewN _) (Nat.add_assoc _ _ _))⟩)) | (go_at_call 67; (with_reducible refine (octavoref07_number.calls kj1 (a0.extract 8 a0.size) t203 _ A17.out).mono ?_); rintro e w' ⟨rfl, ⟨nd, rfl⟩⟩; (try first | exact ⟨rfl, _, World.drewN_drewN _ _ _⟩ | exact ⟨rfl, _, Eq.trans (World.drewN_drewN _ _ _) (congrArg (World.drewN _) (Nat.add_assoc _ _ _))⟩))); try go_wp2_with (first | (go_at_call 67; (with_reducible refine (octavoref07_number.calls kj1 (a0.extract 0 4) t201 _ A12.out).mono ?_); rintro e w' ⟨rfl, ⟨nd, rfl⟩⟩; (try first | exact ⟨rfl, _, World.drewN_drewN _ _ _⟩ | exact ⟨rfl, _, Eq.trans (World.drewN_drewN _ _ _) (congrArg (World.drewN _) (Nat.add_assoc _ _ _))⟩)) | (go_at_call 67; (with_reducible refine (octavoref07_number.calls kj1 (a0.extract 5 7) t202 _ A15.out).mono ?_); rintro e w' ⟨rfl, ⟨nd, rfl⟩⟩; (try first | exact ⟨rfl, _, World.drewN_drewN _ _ _⟩ | exact ⟨rfl, _, Eq.trans (World.drewN_drewN _ _ _) (congrArg (World.drewN _) (Nat.add_assoc _ _ _))⟩)) | (go_at_call 67; (with_reducible refine (octavoref07_number.calls kj1 (a0.extract 8 a0.size) t203 _ A17.out).mono ?_); rintro e w' ⟨rfl, ⟨nd, rfl⟩⟩; (try first | exact ⟨rfl, _, World.drewN_drewN _ _ _⟩ | exact ⟨rfl, _, Eq.trans (World.drewN_drewN _ _ _) (congrArg (World.drewN _) (Nat.add_assoc _ _ _))⟩))))
           go_ret2
           exact ⟨zrl, zdn⟩
          ·rw [if_neg c19] at H
           have c19b0 : decide (t202 < 0) = false := decide_eq_false c19
           clear c19
           by_cases c20 : t203 < 0
           ·rw [if_pos c20] at H
            have c20b0 : decide (t203 < 0) = true := decide_eq_true c20
            clear c20
            simp only [Option.some.injEq, Prod.mk.injEq] at H
            obtain ⟨rfl, rfl⟩ := H
            go_wp2_with (first | (go_at_call 67; (with_reducible refine (octavoref07_number.calls kj1 (a0.extract 0 4) t201 _ A12.out).mono ?_); rintro e w' ⟨rfl, ⟨nd, rfl⟩⟩; (try first | exact ⟨rfl, _, World.drewN_drewN _ _ _⟩ | exact ⟨rfl, _, Eq.trans (World.drewN_drewN _ _ _) (congrArg (World.drewN _) (Nat.add_assoc _ _ _))⟩)) | (go_at_call 67; (with_reducible refine (octavoref07_number.calls kj1 (a0.extract 5 7) t202 _ A15.out).mono ?_); rintro e w' ⟨rfl, ⟨nd, rfl⟩⟩; (try first | exact ⟨rfl, _, World.drewN_drewN _ _ _⟩ | exact ⟨rfl, _, Eq.trans (World.drewN_drewN _ _ _) (congrArg (World.drewN _) (Nat.add_assoc _ _ _))⟩)) | (go_at_call 67; (with_reducible refine (octavoref07_number.calls kj1 (a0.extract 8 a0.size) t203 _ A17.out).mono ?_); rintro e w' ⟨rfl, ⟨nd, rfl⟩⟩; (try first | exact ⟨rfl, _, World.drewN_drewN _ _ _⟩ | exact ⟨rfl, _, Eq.trans (World.drewN_drewN _ _ _) (congrArg (World.drewN _) (Nat.add_assoc _ _ _))⟩)))
            repeat (go_quiet (first | (go_at_call 67; (with_reducible refine (octavoref07_number.calls kj1 (a0.extract 0 4) t201 _ A12.out).mono ?_); rintro e w' ⟨rfl, ⟨nd, rfl⟩⟩; (try first | exact ⟨rfl, _, World.drewN_drewN _ _ _⟩ | exact ⟨rfl, _, Eq.trans (World.drewN_drewN _ _ _) (congrArg (World.drewN _) (Nat.add_assoc _ _ _))⟩)) | (go_at_call 67; (with_reducible refine (octavoref07_number.calls kj1 (a0.extract 5 7) t202 _ A15.out).mono ?_); rintro e w' ⟨rfl, ⟨nd, rfl⟩⟩; (try first | exact ⟨rfl, _, World.drewN_drewN _ _ _⟩ | exact ⟨rfl, _, Eq.trans (World.drewN_drewN _ _ _) (congrArg (World.drewN _) (Nat.add_assoc _ _ _))⟩)) | (go_at_call 67; (with_reducible refine (octavoref07_number.calls kj1 (a0.extract 8 a0.size) t203 _ A17.out).mono ?_); rintro e w' ⟨rfl, ⟨nd, rfl⟩⟩; (try first | exact ⟨rfl, _, World.drewN_drewN _ _ _⟩ | exact ⟨rfl, _, Eq.trans (World.drewN_drewN _ _ _) (congrArg (World.drewN _) (Nat.add_assoc _ _ _))⟩))); try go_wp2_with (first | (go_at_call 67; (with_reducible refine (octavoref07_number.calls kj1 (a0.extract 0 4) t201 _ A12.out).mono ?_); rintro e w' ⟨rfl, ⟨nd, rfl⟩⟩; (try first | exact ⟨rfl, _, World.drewN_drewN _ _ _⟩ | exact ⟨rfl, _, Eq.trans (World.drewN_drewN _ _ _) (congrArg (World.drewN _) (Nat.add_assoc _ _ _))⟩)) | (go_at_call 67; (with_reducible refine (octavoref07_number.calls kj1 (a0.extract 5 7) t202 _ A15.out).mono ?_); rintro e w' ⟨rfl, ⟨nd, rfl⟩⟩; (try first | exact ⟨rfl, _, World.drewN_drewN _ _ _⟩ | exact ⟨rfl, _, Eq.trans (World.drewN_drewN _ _ _) (congrArg (World.drewN _) (Nat.add_assoc _ _ _))⟩)) | (go_at_call 67; (with_reducible refine (octavoref07_number.calls kj1 (a0.extract 8 a0.size) t203 _ A17.out).mono ?_); rintro e w' ⟨rfl, ⟨nd, rfl⟩⟩; (try first | exact ⟨rfl, _, World.drewN_drewN _ _ _⟩ | exact ⟨rfl, _, Eq.trans (World.drewN_drewN _ _ _) (congrArg (World.drewN _) (Nat.add_assoc _ _ _))⟩))))
            go_ret2
            exact ⟨zrl, zdn⟩
           ·rw [if_neg c20] at H
            have c20b0 : decide (t203 < 0) = false := decide_eq_false c20
            clear c20
            replace H := Option.bind_eq_some_iff.mp H
            obtain ⟨⟨t204, t205⟩, A210, H⟩ := H
            replace H : (some (t204, t205)) = some (r1, r2) := H
            have A21 := Aside0.mk A210
            clear A210
            simp only [Option.some.injEq, Prod.mk.injEq] at H
            obtain ⟨rfl, rfl⟩ := H
            go_wp2_with (first | (go_at_call 67; (with_reducible refine (octavoref07_number.calls kj1 (a0.extract 0 4) t201 _ A12.out).mono ?_); rintro e w' ⟨rfl, ⟨nd, rfl⟩⟩; (try first | exact ⟨rfl, _, World.drewN_drewN _ _ _⟩ | exact ⟨rfl, _, Eq.trans (World.drewN_drewN _ _ _) (congrArg (World.drewN _) (Nat.add_assoc _ _ _))⟩)) | (go_at_call 67; (with_reducible refine (octavoref07_number.calls kj1 (a0.extract 5 7) t202 _ A15.out).mono ?_); rintro e w' ⟨rfl, ⟨nd, rfl⟩⟩; (try first | exact ⟨rfl, _, World.drewN_drewN _ _ _⟩ | exact ⟨rfl, _, Eq.trans (World.drewN_drewN _ _ _) (congrArg (World.drewN _) (Nat.add_assoc _ _ _))⟩)) | (go_at_call 67; (with_reducible refine (octavoref07_number.calls kj1 (a0.extract 8 a0.size) t203 _ A17.out).mono ?_); rintro e w' ⟨rfl, ⟨nd, rfl⟩⟩; (try first | exact ⟨rfl, _, World.drewN_drewN _ _ _⟩ | exact ⟨rfl, _, Eq.trans (World.drewN_drewN _ _ _) (congrArg (World.drewN _) (Nat.add_assoc _ _ _))⟩)) | (go_at_call 68; (with_reducible refine (octavoref07_Day.calls kj1 t201 t202 t203 t204 t205 _ A21.out).mono ?_); rintro e w' ⟨rfl, ⟨nd, rfl⟩⟩; (try first | exact ⟨rfl, _, World.drewN_drewN _ _ _⟩ | exact ⟨rfl, _, Eq.trans (World.drewN_drewN _ _ _) (congrArg (World.drewN _) (Nat.add_assoc _ _ _))⟩)))
            repeat (go_quiet (first | (go_at_call 67; (with_reducible refine (octavoref07_number.calls kj1 (a0.extract 0 4) t201 _ A12.out).mono ?_); rintro e w' ⟨rfl, ⟨nd, rfl⟩⟩; (try first | exact ⟨rfl, _, World.drewN_drewN _ _ _⟩ | exact ⟨rfl, _, Eq.trans (World.drewN_drewN _ _ _) (congrArg (World.drewN _) (Nat.add_assoc _ _ _))⟩)) | (go_at_call 67; (with_reducible refine (octavoref07_number.calls kj1 (a0.extract 5 7) t202 _ A15.out).mono ?_); rintro e w' ⟨rfl, ⟨nd, rfl⟩⟩; (try first | exact ⟨rfl, _, World.drewN_drewN _ _ _⟩ | exact ⟨rfl, _, Eq.trans (World.drewN_drewN _ _ _) (congrArg (World.drewN _) (Nat.add_assoc _ _ _))⟩)) | (go_at_call 67; (with_reducible refine (octavoref07_number.calls kj1 (a0.extract 8 a0.size) t203 _ A17.out).mono ?_); rintro e w' ⟨rfl, ⟨nd, rfl⟩⟩; (try first | exact ⟨rfl, _, World.drewN_drewN _ _ _⟩ | exact ⟨rfl, _, Eq.trans (World.drewN_drewN _ _ _) (congrArg (World.drewN _) (Nat.add_assoc _ _ _))⟩)) | (go_at_call 68; (with_reducible refine (octavoref07_Day.calls kj1 t201 t202 t203 t204 t205 _ A21.out).mono ?_); rintro e w' ⟨rfl, ⟨nd, rfl⟩⟩; (try first | exact ⟨rfl, _, World.drewN_drewN _ _ _⟩ | exact ⟨rfl, _, Eq.trans (World.drewN_drewN _ _ _) (congrArg (World.drewN _) (Nat.add_assoc _ _ _))⟩))); try go_wp2_with (first | (go_at_call 67; (with_reducible refine (octavoref07_number.calls kj1 (a0.extract 0 4) t201 _ A12.out).mono ?_); rintro e w' ⟨rfl, ⟨nd, rfl⟩⟩; (try first | exact ⟨rfl, _, World.drewN_drewN _ _ _⟩ | exact ⟨rfl, _, Eq.trans (World.drewN_drewN _ _ _) (congrArg (World.drewN _) (Nat.add_assoc _ _ _))⟩)) | (go_at_call 67; (with_reducible refine (octavoref07_number.calls kj1 (a0.extract 5 7) t202 _ A15.out).mono ?_); rintro e w' ⟨rfl, ⟨nd, rfl⟩⟩; (try first | exact ⟨rfl, _, World.drewN_drewN _ _ _⟩ | exact ⟨rfl, _, Eq.trans (World.drewN_drewN _ _ _) (congrArg (World.drewN _) (Nat.add_assoc _ _ _))⟩)) | (go_at_call 67; (with_reducible refine (octavoref07_number.calls kj1 (a0.extract 8 a0.size) t203 _ A17.out).mono ?_); rintro e w' ⟨rfl, ⟨nd, rfl⟩⟩; (try first | exact ⟨rfl, _, World.drewN_drewN _ _ _⟩ | exact ⟨rfl, _, Eq.trans (World.drewN_drewN _ _ _) (congrArg (World.drewN _) (Nat.add_assoc _ _ _))⟩)) | (go_at_call 68; (with_reducible refine (octavoref07_Day.calls kj1 t201 t202 t203 t204 t205 _ A21.out).mono ?_); rintro e w' ⟨rfl, ⟨nd, rfl⟩⟩; (try first | exact ⟨rfl, _, World.drewN_drewN _ _ _⟩ | exact ⟨rfl, _, Eq.trans (World.drewN_drewN _ _ _) (congrArg (World.drewN _) (Nat.add_assoc _ _ _))⟩))))
            go_ret2
            exact ⟨zrl, zdn⟩
        ·rw [if_neg c16] at H
         exact absurd H (by simp)
       ·rw [if_neg c14] at H
        exact absurd H (by simp)
      ·rw [if_neg c13] at H
       exact absurd H (by simp)
     ·rw [if_neg c11] at H
      exact absurd H (by simp)
    ·rw [if_neg c10] at H
     exact absurd H (by simp)
end Go.Proofs.YtllceoncpgebpaaGreatDoor.P
