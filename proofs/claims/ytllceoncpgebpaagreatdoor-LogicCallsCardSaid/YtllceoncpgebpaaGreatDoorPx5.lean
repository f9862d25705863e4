-- Written by a program of this session (wip/tools/xprint.py), out of the seat's translation. Not trusted: Lean checks it.
import Derived.Test.YtllceoncpgebpaaGreatDoorPx0
import Derived.Test.YtllceoncpgebpaaGreatDoorPx4
namespace Go.Proofs.YtllceoncpgebpaaGreatDoor.P
open Go.RowKit Go.Proofs.YtllceoncpgebpaaGreatDoorW.PrintWords Go.Proofs.YtllceoncpgebpaaGreatDoorW.PrintLast Go.Proofs.YtllceoncpgebpaaGreatDoorW.PrintMore
attribute [local go_sem] max2_int min2_int max_two min_two max_three min_three max_four min_four X.binOp_str_gtr X.binOp_str_leq
set_option linter.unusedVariables false
set_option linter.unusedSimpArgs false
def octavoref05_Itoa.f (k : Nat) (a0 : Int) : Option (ByteArray) := if a0 < 0 then ((octavoref05_Digits.f k (IntKind.u64.wrap ((IntKind.u64.wrap (wrap64 (-(wrap64 (a0 + 1))))) + 1))).bind fun t168 => (if 1 + t168.size ≤ 9223372036854775807 then (some ((⟨#[45]⟩ : ByteArray) ++ t168)) else (none))) else ((octavoref05_Digits.f k (IntKind.u64.wrap (a0))).bind fun t169 => (some t169))
theorem octavoref05_Itoa.mono : ∀ a0 k, LeO (octavoref05_Itoa.f k a0) (octavoref05_Itoa.f (k + 1) a0) := by
 intro a0 k
 unfold octavoref05_Itoa.f
 repeat' first
   | (with_reducible exact octavoref05_Digits.mono _ _)
   | (with_reducible exact LeO.refl _)
   | (with_reducible exact LeO.none _)
   | (with_reducible refine LeO.ite ?_ ?_)
   | (with_reducible refine LeO.bind ?_ (fun _ => ?_))
   | exact octavoref05_Digits.mono _ _
   | exact LeO.none _
   | refine LeO.ite ?_ ?_
   | refine LeO.bind ?_ (fun _ => ?_)
set_option maxHeartbeats 8000000 in
set_option maxRecDepth 100000 in
theorem octavoref05_Itoa.calls (k : Nat) (a0 : Int) (r : ByteArray) (w : World) (h : octavoref05_Itoa.f k a0 = some r) :
  Calls Tryz.prog 131 #[.int .i64 a0] w fun e w' => e = .returned (.string r) ∧ Below w.heap.size w w' := by
 have HB := Aside0.mk (Below.refl w.heap.size w)
 have H : (if a0 < 0 then ((octavoref05_Digits.f k (IntKind.u64.wrap ((IntKind.u64.wrap (wrap64 (-(wrap64 (a0 + 1))))) + 1))).bind fun t168 => (if 1 + t168.size ≤ 9223372036854775807 then (some ((⟨#[45]⟩ : ByteArray) ++ t168)) else (none))) else ((octavoref05_Digits.f k (IntKind.u64.wrap (a0))).bind fun t169 => (some t169))) = some r := h
 clear h
 by_cases c2 : a0 < 0
 ·rw [if_pos c2] at H
  have c2b0 : decide (a0 < 0) = true := decide_eq_true c2
  clear c2
  replace H := Option.bind_eq_some_iff.mp H
  obtain ⟨t168, A30, H⟩ := H
  replace H : (if 1 + t168.size ≤ 9223372036854775807 then (some ((⟨#[45]⟩ : ByteArray) ++ t168)) else (none)) = some r := H
  have A3 := Aside0.mk A30
  clear A30
  by_cases c4 : 1 + t168.size ≤ 9223372036854775807
  ·rw [if_pos c4] at H
   have c4b0 := eq_true c4
   have c4b1 : decide (1 + t168.size ≤ 9223372036854775807) = true := decide_eq_true c4
   try have c4b2 : (9223372036854775807 < 1 + t168.size) = False := eq_false (Nat.not_lt.2 c4)
   obtain rfl := Option.some.inj H
   go_enter Tryz.func131, Tryz.ntmps131
   go_wp2_with (first | ((with_reducible refine gate_callee (f := 129) rfl ?_); refine goesL_ (some 10) rfl rfl Tryz.func129 (by kernel_rfl) rfl #[.int .u64 (IntKind.u64.wrap ((IntKind.u64.wrap (wrap64 (-(wrap64 (a0 + 1))))) + 1))] rfl (by (try simp only [List.map_toArray, List.map_cons, List.map_nil]); first | done | rfl | (simp only [List.length_drop, List.length_take]; rfl)) ?_; (with_reducible refine (octavoref05_Digits.calls k (IntKind.u64.wrap ((IntKind.u64.wrap (wrap64 (-(wrap64 (a0 + 1))))) + 1)) t168 _ A3.out).mono ?_); rintro e w5 ⟨rfl, hb⟩; refine ⟨_, rfl, ?_⟩; have n0_ := Aside0.mk (below_step (by repeat (first | (with_reducible first | exact HB.out | apply below_alloc | apply pw_below_drewN | apply below_drew1) | exact HB.out)) hb); clear HB; have HB := n0_; clear n0_; (try clear hb); (try clear hb2); (try clear hk); (try clear hi)))
   go_ret
   exact ⟨by first | rfl | (simp [errW_none, errW_some] <;> rfl) | (simp [*, errW_none, errW_some] <;> rfl), by repeat (first | (with_reducible first | exact HB.out | apply below_alloc | apply pw_below_drewN | apply below_drew1) | exact HB.out)⟩
  ·rw [if_neg c4] at H
   exact absurd H (by simp)
 ·rw [if_neg c2] at H
  have c2b0 : decide (a0 < 0) = false := decide_eq_false c2
  clear c2
  replace H := Option.bind_eq_some_iff.mp H
  obtain ⟨t169, A60, H⟩ := H
  replace H : (some t169) = some r := H
  have A6 := Aside0.mk A60
  clear A60
  obtain rfl := Option.some.inj H
  go_enter Tryz.func131, Tryz.ntmps131
  go_wp2_with (first | ((with_reducible refine gate_callee (f := 129) rfl ?_); refine goesL_ (some 14) rfl rfl Tryz.func129 (by kernel_rfl) rfl #[.int .u64 (IntKind.u64.wrap (a0))] rfl (by (try simp only [List.map_toArray, List.map_cons, List.map_nil]); first | done | rfl | (simp only [List.length_drop, List.length_take]; rfl)) ?_; (with_reducible refine (octavoref05_Digits.calls k (IntKind.u64.wrap (a0)) t169 _ A6.out).mono ?_); rintro e w7 ⟨rfl, hb⟩; refine ⟨_, rfl, ?_⟩; have n0_ := Aside0.mk (below_step (by repeat (first | (with_reducible first | exact HB.out | apply below_alloc | apply pw_below_drewN | apply below_drew1) | exact HB.out)) hb); clear HB; have HB := n0_; clear n0_; (try clear hb); (try clear hb2); (try clear hk); (try clear hi)))
  go_ret
  exact ⟨by first | rfl | (simp [errW_none, errW_some] <;> rfl) | (simp [*, errW_none, errW_some] <;> rfl), by repeat (first | (with_reducible first | exact HB.out | apply below_alloc | apply pw_below_drewN | apply below_drew1) | exact HB.out)⟩
def octavoref05_digits.l0 : Nat → ByteArray → Int → Int → Int → Option (Bool)
 | 0, _, _, _, _ => none
 | k + 1, x0, x1, x2, x7 => if x7 < (x0.size : Int) then (if 0 ≤ x7 then (if (bt x0 x7) < 48 then (some false) else (if (bt x0 x7) > 57 then (some false) else (octavoref05_digits.l0 k x0 x1 x2 (wrap64 (x7 + 1))))) else (none)) else (if (x0.size : Int) ≥ x1 then (some (decide ((x0.size : Int) ≤ x2))) else (some false))
def octavoref05_digits.f (k : Nat) (a0 : ByteArray) (a1 : Int) (a2 : Int) : Option (Bool) := octavoref05_digits.l0 k a0 a1 a2 0
theorem octavoref05_digits.mono_l : ∀ k, (∀ y0 y1 y2 y3, LeO (octavoref05_digits.l0 k y0 y1 y2 y3) (octavoref05_digits.l0 (k + 1) y0 y1 y2 y3))
 | 0 => fun _ _ _ _ r h => by simp [octavoref05_digits.l0] at h
 | k + 1 => by
  have ih0 := octavoref05_digits.mono_l k
  ·intro y0 y1 y2 y3
   unfold octavoref05_digits.l0
   repeat' first
   | (with_reducible exact ih0 _ _ _ _)
   | (with_reducible exact LeO.refl _)
   | (with_reducible exact LeO.none _)
   | (with_reducible refine LeO.ite ?_ ?_)
   | (with_reducible refine LeO.bind ?_ (fun _ => ?_))
   | exact ih0 _ _ _ _
   | exact LeO.none _
   | refine LeO.ite ?_ ?_
   | refine LeO.bind ?_ (fun _ => ?_)
theorem octavoref05_digits.mono : ∀ a0 a1 a2 k, LeO (octavoref05_digits.f k a0 a1 a2) (octavoref05_digits.f (k + 1) a0 a1 a2) := by
 intro a0 a1 a2 k
 have ih0 := octavoref05_digits.mono_l k
 unfold octavoref05_digits.f
 repeat' first
   | (with_reducible exact ih0 _ _ _ _)
   | (with_reducible exact LeO.refl _)
   | (with_reducible exact LeO.none _)
   | (with_reducible refine LeO.ite ?_ ?_)
   | (with_reducible refine LeO.bind ?_ (fun _ => ?_))
   | exact ih0 _ _ _ _
   | exact LeO.none _
   | refine LeO.ite ?_ ?_
   | refine LeO.bind ?_ (fun _ => ?_)
set_option maxHeartbeats 8000000 in
set_option maxRecDepth 100000 in
theorem octavoref05_digits.calls (k : Nat) (a0 : ByteArray) (a1 : Int) (a2 : Int) (r : Bool) (w : World) (h : octavoref05_digits.f k a0 a1 a2 = some r) :
  Calls Tryz.prog 142 #[.string a0, .int .i64 a1, .int .i64 a2] w fun e w' => e = .returned (.bool r) ∧ Drawn0 w w' := by
 have H : (octavoref05_digits.l0 k a0 a1 a2 0) = some r := h
 clear h
 have H' := Aside0.mk H
 clear H
 go_enter Tryz.func142, Tryz.ntmps142
 go_wp2
 go_loopg [7] k (fun kq v7 w' => ∃ (x7_1 : Int), v7 = .int .i64 x7_1 ∧ Aside0 (octavoref05_digits.l0 kq a0 a1 a2 x7_1 = some r) ∧ Aside0 (kq ≤ k) ∧ Drawn0 w w')
 case atStart => exact ⟨(0), zrl, H', ⟨Nat.le_refl _⟩, zdn⟩
 case round =>
  clear H'
  try clear c1
  try clear p2
  obtain ⟨x7_1, rfl, HA, HK1, ⟨m1, rfl⟩⟩ := hrel
  cases gk with
  | zero => exact absurd HA.out (by simp [octavoref05_digits.l0])
  | succ k1 =>
   have H := HA.out
   clear HA
   simp only [octavoref05_digits.l0] at H
   by_cases c4 : x7_1 < (a0.size : Int)
   ·rw [if_pos c4] at H
    have c4b0 : decide (x7_1 < (a0.size : Int)) = true := decide_eq_true c4
    clear c4
    by_cases c5 : 0 ≤ x7_1
    ·rw [if_pos c5] at H
     have c5b0 : decide (0 ≤ x7_1) = true := decide_eq_true c5
     clear c5
     by_cases c7 : (bt a0 x7_1) < 48
     ·rw [if_pos c7] at H
      have c7b0 : decide ((bt a0 x7_1) < 48) = true := decide_eq_true c7
      clear c7
      obtain rfl := Option.some.inj H
      have p6 : 0 ≤ (x7_1 : Int) := of_decide_eq_true zas
      have q6 : x7_1 < (a0.size : Int) := of_decide_eq_true zas
      have hx6 := bt_at a0 x7_1
      replace p6 := eq_true p6
      replace q6 := eq_true q6
      go_wp2
      go_ret
      exact ⟨zrl, zdn⟩
     ·rw [if_neg c7] at H
      have c7b0 : decide ((bt a0 x7_1) < 48) = false := decide_eq_false c7
      clear c7
      by_cases c9 : (bt a0 x7_1) > 57
      ·rw [if_pos c9] at H
       have c9b0 : decide (57 < (bt a0 x7_1)) = true := decide_eq_true c9
       clear c9
       obtain rfl := Option.some.inj H
       have p6 : 0 ≤ (x7_1 : Int) := of_decide_eq_true zas
       have q6 : x7_1 < (a0.size : Int) := of_decide_eq_true zas
       have hx6 := bt_at a0 x7_1
       replace p6 := eq_true p6
       replace q6 := eq_true q6
       have p8 : 0 ≤ (x7_1 : Int) := of_decide_eq_true zas
       have q8 : x7_1 < (a0.size : Int) := of_decide_eq_true zas
       have hx8 := bt_at a0 x7_1
       replace p8 := eq_true p8
       replace q8 := eq_true q8
       go_wp2
       go_ret
       exact ⟨zrl, zdn⟩
      ·rw [if_neg c9] at H
       have c9b0 : decide (57 < (bt a0 x7_1)) = false := decide_eq_false c9
       clear c9
       have H' := Aside0.mk H
       clear H
       have p6 : 0 ≤ (x7_1 : Int) := of_decide_eq_true zas
       have q6 : x7_1 < (a0.size : Int) := of_decide_eq_true zas
       have hx6 := bt_at a0 x7_1
       replace p6 := eq_true p6
       replace q6 := eq_true q6
       have p8 : 0 ≤ (x7_1 : Int) := of_decide_eq_true zas
       have q8 : x7_1 < (a0.size : Int) := of_decide_eq_true zas
       have hx8 := bt_at a0 x7_1
       replace p8 := eq_true p8
       replace q8 := eq_true q8
       go_wp2
       go_roundg k1
       case measure => have := HK1.out; omega
       case rel => exact ⟨(wrap64 (x7_1 + 1)), zrl, H', ⟨by have := HK1.out; omega⟩, zdn⟩
    ·rw [if_neg c5] at H
     exact absurd H (by simp)
   ·rw [if_neg c4] at H
    have c4b0 : decide (x7_1 < (a0.size : Int)) = false := decide_eq_false c4
    clear c4
    by_cases c10 : (a0.size : Int) ≥ a1
    ·rw [if_pos c10] at H
     have c10b0 : decide (a1 ≤ (a0.size : Int)) = true := decide_eq_true c10
     clear c10
     obtain rfl := Option.some.inj H
     go_wp2
     go_ret
     exact ⟨zrl, zdn⟩
    ·rw [if_neg c10] at H
     have c10b0 : decide (a1 ≤ (a0.size : Int)) = false := decide_eq_false c10
     clear c10
     obtain rfl := Option.some.inj H
     go_wp2
     go_ret
     exact ⟨zrl, zdn⟩
def octavoref05_out.f (a0 : Int) : Option (Int × Bool) := (octavoref05_Good.f a0).bind fun t170 => (if t170 = true then (some (a0, true)) else (some (0, false)))
set_option maxHeartbeats 8000000 in
set_option maxRecDepth 100000 in
theorem octavoref05_out.calls (a0 : Int) (r1 : Int) (r2 : Bool) (w : World) (h : octavoref05_out.f a0 = some (r1, r2)) :
  Calls Tryz.prog 143 #[.int .i64 a0] w fun e w' => e = .returned (.tuple #[.int .i64 r1, .bool r2]) ∧ Drawn0 w w' := by
 have H : ((octavoref05_Good.f a0).bind fun t170 => (if t170 = true then (some (a0, true)) else (some (0, false)))) = some (r1, r2) := h
 clear h
 replace H := Option.bind_eq_some_iff.mp H
 obtain ⟨t170, A20, H⟩ := H
 replace H : (if t170 = true then (some (a0, true)) else (some (0, false))) = some (r1, r2) := H
 have A2 := Aside0.mk A20
 clear A20
 by_cases c3 : t170 = true
 ·subst c3
  have H1 : (some (a0, true)) = some (r1, r2) := by rw [if_pos rfl] at H; exact H
  clear H
  have H := H1
  clear H1
  simp only [Option.some.injEq, Prod.mk.injEq] at H
  obtain ⟨rfl, rfl⟩ := H
  go_enter Tryz.func143, Tryz.ntmps143
  go_wp2_with (first | ((with_reducible refine gate_callee (f := 21) rfl ?_); refine goesL_ (some 5) rfl rfl Tryz.func21 (by kernel_rfl) rfl #[.int .i64 a0] rfl (by (try simp only [List.map_toArray, List.map_cons, List.map_nil]); first | done | rfl | (simp only [List.length_drop, List.length_take]; rfl)) ?_; (with_reducible refine (octavoref05_Good.calls a0 true _ A2.out).mono ?_); rintro e w' ⟨rfl, ⟨nd, rfl⟩⟩; refine ⟨_, rfl, ?_⟩))
  go_ret2
  exact ⟨zrl, zdn⟩
 ·replace c3 := Bool.eq_false_iff.mpr c3
  subst c3
  have H1 : (some (0, false)) = some (r1, r2) := by rw [if_neg (show ¬ (false = true) by decide)] at H; exact H
  clear H
  have H := H1
  clear H1
  simp only [Option.some.injEq, Prod.mk.injEq] at H
  obtain ⟨rfl, rfl⟩ := H
  go_enter Tryz.func143, Tryz.ntmps143
  go_wp2_with (first | ((with_reducible refine gate_callee (f := 21) rfl ?_); refine goesL_ (some 5) rfl rfl Tryz.func21 (by kernel_rfl) rfl #[.int .i64 a0] rfl (by (try simp only [List.map_toArray, List.map_cons, List.map_nil]); first | done | rfl | (simp only [List.length_drop, List.length_take]; rfl)) ?_; (with_reducible refine (octavoref05_Good.calls a0 false _ A2.out).mono ?_); rintro e w' ⟨rfl, ⟨nd, rfl⟩⟩; refine ⟨_, rfl, ?_⟩))
  go_ret2
  exact ⟨zrl, zdn⟩
end Go.Proofs.YtllceoncpgebpaaGreatDoor.P
