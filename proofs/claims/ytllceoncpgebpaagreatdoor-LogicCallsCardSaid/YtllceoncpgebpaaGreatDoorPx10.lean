-- Written by a program of this session (wip/tools/xprint.py), out of the seat's translation. Not trusted: Lean checks it.
import Derived.Test.YtllceoncpgebpaaGreatDoorPx0
import Derived.Test.YtllceoncpgebpaaGreatDoorPx5
import Derived.Test.YtllceoncpgebpaaGreatDoorPx7
import Derived.Test.YtllceoncpgebpaaGreatDoorPx8
namespace Go.Proofs.YtllceoncpgebpaaGreatDoor.P
open Go.RowKit Go.Proofs.YtllceoncpgebpaaGreatDoorW.PrintWords Go.Proofs.YtllceoncpgebpaaGreatDoorW.PrintLast Go.Proofs.YtllceoncpgebpaaGreatDoorW.PrintMore
attribute [local go_sem] max2_int min2_int max_two min_two max_three min_three max_four min_four X.binOp_str_gtr X.binOp_str_leq
set_option linter.unusedVariables false
set_option linter.unusedSimpArgs false
def octavoref07_pad.l0 : Nat → Int → ByteArray → Option (ByteArray)
 | 0, _, _ => none
 | k + 1, x1, x5 => if (x5.size : Int) < x1 then (if 1 + x5.size ≤ 9223372036854775807 then (octavoref07_pad.l0 k x1 ((⟨#[48]⟩ : ByteArray) ++ x5)) else (none)) else (some x5)
def octavoref07_pad.f (k : Nat) (a0 : Int) (a1 : Int) : Option (ByteArray) := (octavoref05_Itoa.f k a0).bind fun t206 => (octavoref07_pad.l0 k a1 t206)
theorem octavoref07_pad.mono_l : ∀ k, (∀ y0 y1, LeO (octavoref07_pad.l0 k y0 y1) (octavoref07_pad.l0 (k + 1) y0 y1))
 | 0 => fun _ _ r h => by simp [octavoref07_pad.l0] at h
 | k + 1 => by
  have ih0 := octavoref07_pad.mono_l k
  ·intro y0 y1
   unfold octavoref07_pad.l0
   repeat' first
   | (with_reducible exact ih0 _ _)
   | (with_reducible exact octavoref05_Itoa.mono _ _)
   | (with_reducible exact LeO.refl _)
   | (with_reducible exact LeO.none _)
   | (with_reducible refine LeO.ite ?_ ?_)
   | (with_reducible refine LeO.bind ?_ (fun _ => ?_))
   | exact ih0 _ _
   | exact octavoref05_Itoa.mono _ _
   | exact LeO.none _
   | refine LeO.ite ?_ ?_
   | refine LeO.bind ?_ (fun _ => ?_)
theorem octavoref07_pad.mono : ∀ a0 a1 k, LeO (octavoref07_pad.f k a0 a1) (octavoref07_pad.f (k + 1) a0 a1) := by
 intro a0 a1 k
 have ih0 := octavoref07_pad.mono_l k
 unfold octavoref07_pad.f
 repeat' first
   | (with_reducible exact ih0 _ _)
   | (with_reducible exact octavoref05_Itoa.mono _ _)
   | (with_reducible exact LeO.refl _)
   | (with_reducible exact LeO.none _)
   | (with_reducible refine LeO.ite ?_ ?_)
   | (with_reducible refine LeO.bind ?_ (fun _ => ?_))
   | exact ih0 _ _
   | exact octavoref05_Itoa.mono _ _
   | exact LeO.none _
   | refine LeO.ite ?_ ?_
   | refine LeO.bind ?_ (fun _ => ?_)
set_option maxHeartbeats 8000000 in
set_option maxRecDepth 100000 in
theorem octavoref07_pad.calls (k : Nat) (a0 : Int) (a1 : Int) (r : ByteArray) (w : World) (h : octavoref07_pad.f k a0 a1 = some r) :
  Calls Tryz.prog 114 #[.int .i64 a0, .int .i64 a1] w fun e w' => e = .returned (.string r) ∧ Below w.heap.size w w' := by
 have HB := Aside0.mk (Below.refl w.heap.size w)
 have H : ((octavoref05_Itoa.f k a0).bind fun t206 => (octavoref07_pad.l0 k a1 t206)) = some r := h
 clear h
 replace H := Option.bind_eq_some_iff.mp H
 obtain ⟨t206, A30, H⟩ := H
 replace H : (octavoref07_pad.l0 k a1 t206) = some r := H
 have A3 := Aside0.mk A30
 clear A30
 have H' := Aside0.mk H
 clear H
 go_enter Tryz.func114, Tryz.ntmps114
 go_wp2_with (first | ((with_reducible refine gate_callee (f := 131) rfl ?_); refine goesL_ (some 7) rfl rfl Tryz.func131 (by kernel_rfl) rfl #[.int .i64 a0] rfl (by (try simp only [List.map_toArray, List.map_cons, List.map_nil]); first | done | rfl | (simp only [List.length_drop, List.length_take]; rfl)) ?_; (with_reducible refine (octavoref05_Itoa.calls k a0 t206 _ A3.out).mono ?_); rintro e w4 ⟨rfl, hb⟩; refine ⟨_, rfl, ?_⟩; have n0_ := Aside0.mk (below_step (by repeat (first | (with_reducible first | exact HB.out | apply below_alloc | apply pw_below_drewN | apply below_drew1) | exact HB.out)) hb); clear HB; have HB := n0_; clear n0_; (try clear hb); (try clear hb2); (try clear hk); (try clear hi)))
 go_loopg [5] k (fun kq v5 w' => ∃ (x5_1 : ByteArray), v5 = .string x5_1 ∧ Aside0 (octavoref07_pad.l0 kq a1 x5_1 = some r) ∧ Aside0 (kq ≤ k) ∧ Aside0 (Below w.heap.size w w'))
 case atStart => exact ⟨(t206), zrl, H', ⟨Nat.le_refl _⟩, ⟨by repeat (first | (with_reducible first | exact HB.out | apply below_alloc | apply pw_below_drewN | apply below_drew1) | exact HB.out)⟩⟩
 case round =>
  clear H'
  try clear c1
  try clear p2
  obtain ⟨x5_1, rfl, HA, HK1, HB⟩ := hrel
  cases gk with
  | zero => exact absurd HA.out (by simp [octavoref07_pad.l0])
  | succ k1 =>
   have H := HA.out
   clear HA
   simp only [octavoref07_pad.l0] at H
   by_cases c5 : (x5_1.size : Int) < a1
   ·rw [if_pos c5] at H
    have c5b0 : decide ((x5_1.size : Int) < a1) = true := decide_eq_true c5
    clear c5
    by_cases c6 : 1 + x5_1.size ≤ 9223372036854775807
    ·rw [if_pos c6] at H
     have c6b0 := eq_true c6
     have c6b1 : decide (1 + x5_1.size ≤ 9223372036854775807) = true := decide_eq_true c6
     try have c6b2 : (9223372036854775807 < 1 + x5_1.size) = False := eq_false (Nat.not_lt.2 c6)
     have H' := Aside0.mk H
     clear H
     go_wp2
     go_roundg k1
     case measure => have := HK1.out; omega
     case rel => exact ⟨((⟨#[48]⟩ : ByteArray) ++ x5_1), zrl, H', ⟨by have := HK1.out; omega⟩, ⟨by repeat (first | (with_reducible first | exact HB.out | apply below_alloc | apply pw_below_drewN | apply below_drew1) | exact HB.out)⟩⟩
    ·rw [if_neg c6] at H
     exact absurd H (by simp)
   ·rw [if_neg c5] at H
    have c5b0 : decide ((x5_1.size : Int) < a1) = false := decide_eq_false c5
    clear c5
    obtain rfl := Option.some.inj H
    go_wp2
    go_ret
    exact ⟨by first | rfl | (simp [errW_none, errW_some] <;> rfl) | (simp [*, errW_none, errW_some] <;> rfl), by repeat (first | (with_reducible first | exact HB.out | apply below_alloc | apply pw_below_drewN | apply below_drew1) | exact HB.out)⟩
def octavoref07_Print.f (k : Nat) (a0 : Int) : Option (ByteArray) := (octavoref07_Parts.f k a0).bind fun bt207 => (if bt207.2.2.2 = true then ((octavoref07_pad.f k bt207.1 4).bind fun t211 => (if t211.size + 1 ≤ 9223372036854775807 then ((octavoref07_pad.f k bt207.2.1 2).bind fun t212 => (if (t211 ++ (⟨#[45]⟩ : ByteArray)).size + t212.size ≤ 9223372036854775807 then (if ((t211 ++ (⟨#[45]⟩ : ByteArray)) ++ t212).size + 1 ≤ 9223372036854775807 then ((octavoref07_pad.f k bt207.2.2.1 2).bind fun t213 => (if (((t211 ++ (⟨#[45]⟩ : ByteArray)) ++ t212) ++ (⟨#[45]⟩ : ByteArray)).size + t213.size ≤ 9223372036854775807 then (some ((((t211 ++ (⟨#[45]⟩ : ByteArray)) ++ t212) ++ (⟨#[45]⟩ : ByteArray)) ++ t213)) else (none))) else (none)) else (none))) else (none))) else (some (⟨#[]⟩ : ByteArray)))
theorem octavoref07_Print.mono : ∀ a0 k, LeO (octavoref07_Print.f k a0) (octavoref07_Print.f (k + 1) a0) := by
 intro a0 k
 unfold octavoref07_Print.f
 repeat' first
   | (with_reducible exact octavoref07_Parts.mono _ _)
   | (with_reducible exact octavoref07_pad.mono _ _ _)
   | (with_reducible exact LeO.refl _)
   | (with_reducible exact LeO.none _)
   | (with_reducible refine LeO.ite ?_ ?_)
   | (with_reducible refine LeO.bind ?_ (fun _ => ?_))
   | exact octavoref07_Parts.mono _ _
   | exact octavoref07_pad.mono _ _ _
   | exact LeO.none _
   | refine LeO.ite ?_ ?_
   | refine LeO.bind ?_ (fun _ => ?_)
set_option maxHeartbeats 8000000 in
set_option maxRecDepth 100000 in
theorem octavoref07_Print.calls (k : Nat) (a0 : Int) (r : ByteArray) (w : World) (h : octavoref07_Print.f k a0 = some r) :
  Calls Tryz.prog 75 #[.int .i64 a0] w fun e w' => e = .returned (.string r) ∧ Below w.heap.size w w' := by
 have HB := Aside0.mk (Below.refl w.heap.size w)
 have H : ((octavoref07_Parts.f k a0).bind fun bt207 => (if bt207.2.2.2 = true then ((octavoref07_pad.f k bt207.1 4).bind fun t211 => (if t211.size + 1 ≤ 9223372036854775807 then ((octavoref07_pad.f k bt207.2.1 2).bind fun t212 => (if (t211 ++ (⟨#[45]⟩ : ByteArray)).size + t212.size ≤ 9223372036854775807 then (if ((t211 ++ (⟨#[45]⟩ : ByteArray)) ++ t212).size + 1 ≤ 9223372036854775807 then ((octavoref07_pad.f k bt207.2.2.1 2).bind fun t213 => (if (((t211 ++ (⟨#[45]⟩ : ByteArray)) ++ t212) ++ (⟨#[45]⟩ : ByteArray)).size + t213.size ≤ 9223372036854775807 then (some ((((t211 ++ (⟨#[45]⟩ : ByteArray)) ++ t212) ++ (⟨#[45]⟩ : ByteArray)) ++ t213)) else (none))) else (none)) else (none))) else (none))) else (some (⟨#[]⟩ : ByteArray)))) = some r := h
 clear h
 replace H := Option.bind_eq_some_iff.mp H
 obtain ⟨⟨t207, t208, t209, t210⟩, A20, H⟩ := H
 replace H : (if t210 = true then ((octavoref07_pad.f k t207 4).bind fun t211 => (if t211.size + 1 ≤ 9223372036854775807 then ((octavoref07_pad.f k t208 2).bind fun t212 => (if (t211 ++ (⟨#[45]⟩ : ByteArray)).size + t212.size ≤ 9223372036854775807 then (if ((t211 ++ (⟨#[45]⟩ : ByteArray)) ++ t212).size + 1 ≤ 9223372036854775807 then ((octavoref07_pad.f k t209 2).bind fun t213 => (if (((t211 ++ (⟨#[45]⟩ : ByteArray)) ++ t212) ++ (⟨#[45]⟩ : ByteArray)).size + t213.size ≤ 9223372036854775807 then (some ((((t211 ++ (⟨#[45]⟩ : ByteArray)) ++ t212) ++ (⟨#[45]⟩ : ByteArray)) ++ t213)) else (none))) else (none)) else (none))) else (none))) else (some (⟨#[]⟩ : ByteArray))) = some r := H
 have A2 := Aside0.mk A20
 clear A20
 by_cases c3 : t210 = true
 ·subst c3
  have H1 : ((octavoref07_pad.f k t207 4).bind fun t211 => (if t211.size + 1 ≤ 9223372036854775807 then ((octavoref07_pad.f k t208 2).bind fun t212 => (if (t211 ++ (⟨#[45]⟩ : ByteArray)).size + t212.size ≤ 9223372036854775807 then (if ((t211 ++ (⟨#[45]⟩ : ByteArray)) ++ t212).size + 1 ≤ 9223372036854775807 then ((octavoref07_pad.f k t209 2).bind fun t213 => (if (((t211 ++ (⟨#[45]⟩ : ByteArray)) ++ t212) ++ (⟨#[45]⟩ : ByteArray)).size + t213.size ≤ 9223372036854775807 then (some ((((t211 ++ (⟨#[45]⟩ : ByteArray)) ++ t212) ++ (⟨#[45]⟩ : ByteArray)) ++ t213)) else (none))) else (none)) else (none))) else (none))) = some r := by rw [if_pos rfl] at H; exact H
  clear H
  have H := H1
  clear H1
  replace H := Option.bind_eq_some_iff.mp H
  obtain ⟨t211, A40, H⟩ := H
  replace H : (if t211.size + 1 ≤ 9223372036854775807 then ((octavoref07_pad.f k t208 2).bind fun t212 => (if (t211 ++ (⟨#[45]⟩ : ByteArray)).size + t212.size ≤ 9223372036854775807 then (if ((t211 ++ (⟨#[45]⟩ : ByteArray)) ++ t212).size + 1 ≤ 9223372036854775807 then ((octavoref07_pad.f k t209 2).bind fun t213 => (if (((t211 ++ (⟨#[45]⟩ : ByteArray)) ++ t212) ++ (⟨#[45]⟩ : ByteArray)).size + t213.size ≤ 9223372036854775807 then (some ((((t211 ++ (⟨#[45]⟩ : ByteArray)) ++ t212) ++ (⟨#[45]⟩ : ByteArray)) ++ t213)) else (none))) else (none)) else (none))) else (none)) = some r := H
  have A4 := Aside0.mk A40
  clear A40
  by_cases c5 : t211.size + 1 ≤ 9223372036854775807
  ·rw [if_pos c5] at H
   have c5b0 := eq_true c5
   have c5b1 : decide (t211.size + 1 ≤ 9223372036854775807) = true := decide_eq_true c5
   try have c5b2 : (9223372036854775807 < t211.size + 1) = False := eq_false (Nat.not_lt.2 c5)
   replace H := Option.bind_eq_some_iff.mp H
   obtain ⟨t212, A60, H⟩ := H
   replace H : (if (t211 ++ (⟨#[45]⟩ : ByteArray)).size + t212.size ≤ 9223372036854775807 then (if ((t211 ++ (⟨#[45]⟩ : ByteArray)) ++ t212).size + 1 ≤ 9223372036854775807 then ((octavoref07_pad.f k t209 2).bind fun t213 => (if (((t211 ++ (⟨#[45]⟩ : ByteArray)) ++ t212) ++ (⟨#[45]⟩ : ByteArray)).size + t213.size ≤ 9223372036854775807 then (some ((((t211 ++ (⟨#[45]⟩ : ByteArray)) ++ t212) ++ (⟨#[45]⟩ : ByteArray)) ++ t213)) else (none))) else (none)) else (none)) = some r := H
   have A6 := Aside0.mk A60
   clear A60
   by_cases c7 : (t211 ++ (⟨#[45]⟩ : ByteArray)).size + t212.size ≤ 9223372036854775807
   ·rw [if_pos c7] at H
    have c7b0 := eq_true c7
    have c7b1 : decide ((t211 ++ (⟨#[45]⟩ : ByteArray)).size + t212.size ≤ 9223372036854775807) = true := decide_eq_true c7
    try have c7b2 : (9223372036854775807 < (t211 ++ (⟨#[45]⟩ : ByteArray)).size + t212.size) = False := eq_false (Nat.not_lt.2 c7)
    try (have c7b3 := c7; simp only [ByteArray.size_append, Nat.add_zero, Nat.zero_add, show (⟨#[45]⟩ : ByteArray).size = 1 from rfl] at c7b3; have c7b4 := eq_true c7b3; have c7b5 := eq_false (Nat.not_lt.2 c7b3))
    by_cases c8 : ((t211 ++ (⟨#[45]⟩ : ByteArray)) ++ t212).size + 1 ≤ 9223372036854775807
    ·rw [if_pos c8] at H
     have c8b0 := eq_true c8
     have c8b1 : decide (((t211 ++ (⟨#[45]⟩ : ByteArray)) ++ t212).size + 1 ≤ 9223372036854775807) = true := decide_eq_true c8
     try have c8b2 : (9223372036854775807 < ((t211 ++ (⟨#[45]⟩ : ByteArray)) ++ t212).size + 1) = False := eq_false (Nat.not_lt.2 c8)
     try (have c8b3 := c8; simp only [ByteArray.size_append, Nat.add_zero, Nat.zero_add, show (⟨#[45]⟩ : ByteArray).size = 1 from rfl] at c8b3; have c8b4 := eq_true c8b3; have c8b5 := eq_false (Nat.not_lt.2 c8b3))
     replace H := Option.bind_eq_some_iff.mp H
     obtain ⟨t213, A90, H⟩ := H
     replace H : (if (((t211 ++ (⟨#[45]⟩ : ByteArray)) ++ t212) ++ (⟨#[45]⟩ : ByteArray)).size + t213.size ≤ 9223372036854775807 then (some ((((t211 ++ (⟨#[45]⟩ : ByteArray)) ++ t212) ++ (⟨#[45]⟩ : ByteArray)) ++ t213)) else (none)) = some r := H
     have A9 := Aside0.mk A90
     clear A90
     by_cases c10 : (((t211 ++ (⟨#[45]⟩ : ByteArray)) ++ t212) ++ (⟨#[45]⟩ : ByteArray)).size + t213.size ≤ 9223372036854775807
     ·rw [if_pos c10] at H
      have c10b0 := eq_true c10
      have c10b1 : decide ((((t211 ++ (⟨#[45]⟩ : ByteArray)) ++ t212) ++ (⟨#[45]⟩ : ByteArray)).size + t213.size ≤ 9223372036854775807) = true := decide_eq_true c10
      try have c10b2 : (9223372036854775807 < (((t211 ++ (⟨#[45]⟩ : ByteArray)) ++ t212) ++ (⟨#[45]⟩ : ByteArray)).size + t213.size) = False := eq_false (Nat.not_lt.2 c10)
      try (have c10b3 := c10; simp only [ByteArray.size_append, Nat.add_zero, Nat.zero_add, show (⟨#[45]⟩ : ByteArray).size = 1 from rfl] at c10b3; have c10b4 := eq_true c10b3; have c10b5 := eq_false (Nat.not_lt.2 c10b3))
      obtain rfl := Option.some.inj H
      go_enter Tryz.func75, Tryz.ntmps75
      go_wp2_with (first | ((with_reducible refine gate_callee (f := 71) rfl ?_); refine goesL_ (some 9) rfl rfl Tryz.func71 (by kernel_rfl) rfl #[.int .i64 a0] rfl (by (try simp only [List.map_toArray, List.map_cons, List.map_nil]); first | done | rfl | (simp only [List.length_drop, List.length_take]; rfl)) ?_; (with_reducible refine (octavoref07_Parts.calls k a0 t207 t208 t209 true _ A2.out).mono ?_); rintro e w' ⟨rfl, ⟨nd, rfl⟩⟩; refine ⟨_, rfl, ?_⟩) | ((with_reducible refine gate_callee (f := 114) rfl ?_); refine goesL_ (some 17) rfl rfl Tryz.func114 (by kernel_rfl) rfl #[.int .i64 t207, .int .i64 4] rfl (by (try simp only [List.map_toArray, List.map_cons, List.map_nil]); first | done | rfl | (simp only [List.length_drop, List.length_take]; rfl)) ?_; (with_reducible refine (octavoref07_pad.calls k t207 4 t211 _ A4.out).mono ?_); rintro e w11 ⟨rfl, hb⟩; refine ⟨_, rfl, ?_⟩; have n0_ := Aside0.mk (below_step (by repeat (first | (with_reducible first | exact HB.out | apply below_alloc | apply pw_below_drewN | apply below_drew1) | exact HB.out)) hb); clear HB; have HB := n0_; clear n0_; (try clear hb); (try clear hb2); (try clear hk); (try clear hi)) | ((with_reducible refine gate_callee (f := 114) rfl ?_); refine goesL_ (some 20) rfl rfl Tryz.func114 (by kernel_rfl) rfl #[.int .i64 t208, .int .i64 2] rfl (by (try simp only [List.map_toArray, List.map_cons, List.map_nil]); first | done | rfl | (simp only [List.length_drop, List.length_take]; rfl)) ?_; (with_reducible refine (octavoref07_pad.calls k t208 2 t212 _ A6.out).mono ?_); rintro e w12 ⟨rfl, hb⟩; refine ⟨_, rfl, ?_⟩; have n0_ := Aside0.mk (below_step (by repeat (first | (with_reducible first | exact HB.out | apply below_alloc | apply pw_below_drewN | apply below_drew1) | exact HB.out)) hb); clear HB; have HB := n0_; clear n0_; (try clear hb); (try clear hb2); (try clear hk); (try clear hi)) | ((with_reducible refine gate_callee (f := 114) rfl ?_); refine goesL_ (some 24) rfl rfl Tryz.func114 (by kernel_rfl) rfl #[.int .i64 t209, .int .i64 2] rfl (by (try simp only [List.map_toArray, List.map_cons, List.map_nil]); first | done | rfl | (simp only [List.length_drop, List.length_take]; rfl)) ?_; (with_reducible refine (octavoref07_pad.calls k t209 2 t213 _ A9.out).mono ?_); rintro e w13 ⟨rfl, hb⟩; refine ⟨_, rfl, ?_⟩; have n0_ := Aside0.mk (below_step (by repeat (first | (with_reducible first | exact HB.out | apply below_alloc | apply pw_below_drewN | apply below_drew1) | exact HB.out)) hb); clear HB; have HB := n0_; clear n0_; (try clear hb); (try clear hb2); (try clear hk); (try clear hi)))
      go_ret
      exact ⟨by first | rfl | (simp [errW_none, errW_some] <;> rfl) | (simp [*, errW_none, errW_some] <;> rfl), by repeat (first | (with_reducible first | exact HB.out | apply below_alloc | apply pw_below_drewN | apply below_drew1) | exact HB.out)⟩
     ·rw [if_neg c10] at H
      exact absurd H (by simp)
    ·rw [if_neg c8] at H
     exact absurd H (by simp)
   ·rw [if_neg c7] at H
    exact absurd H (by simp)
  ·rw [if_neg c5] at H
   exact absurd H (by simp)
 ·replace c3 := Bool.eq_false_iff.mpr c3
  subst c3
  have H1 : (some (⟨#[]⟩ : ByteArray)) = some r := by rw [if_neg (show ¬ (false = true) by decide)] at H; exact H
  clear H
  have H := H1
  clear H1
  obtain rfl := Option.some.inj H
  go_enter Tryz.func75, Tryz.ntmps75
  go_wp2_with (first | ((with_reducible refine gate_callee (f := 71) rfl ?_); refine goesL_ (some 9) rfl rfl Tryz.func71 (by kernel_rfl) rfl #[.int .i64 a0] rfl (by (try simp only [List.map_toArray, List.map_cons, List.map_nil]); first | done | rfl | (simp only [List.length_drop, List.length_take]; rfl)) ?_; (with_reducible refine (octavoref07_Parts.calls k a0 t207 t208 t209 false _ A2.out).mono ?_); rintro e w' ⟨rfl, ⟨nd, rfl⟩⟩; refine ⟨_, rfl, ?_⟩))
  go_ret
  exact ⟨by first | rfl | (simp [errW_none, errW_some] <;> rfl) | (simp [*, errW_none, errW_some] <;> rfl), by repeat (first | (with_reducible first | exact HB.out | apply below_alloc | apply pw_below_drewN | apply below_drew1) | exact HB.out)⟩
def octavoref07_Week.j0 : Nat → Int → Bool → Option (Int)
 | 0, _, _ => none
 | k + 1, x0, x14 => if x14 = true then (some 0) else (if (wrap64 ((wrap64 (x0 - (Int.tmod (wrap64 (x0 + 6)) 7))) + 3)) < 1 then (some 1) else (if (wrap64 ((wrap64 (x0 - (Int.tmod (wrap64 (x0 + 6)) 7))) + 3)) > 2958464 then (some 52) else ((octavoref07_Parts.f k (wrap64 ((wrap64 (x0 - (Int.tmod (wrap64 (x0 + 6)) 7))) + 3))).bind fun bt214 => ((octavoref07_first.f k bt214.1 1).bind fun t218 => (some (wrap64 ((wrap64 (Int.tdiv (wrap64 ((wrap64 ((wrap64 ((wrap64 (x0 - (Int.tmod (wrap64 (x0 + 6)) 7))) + 3)) - t218)) - 1)) 7)) + 1)))))))
def octavoref07_Week.f (k : Nat) (a0 : Int) : Option (Int) := if a0 < 1 then (octavoref07_Week.j0 k a0 true) else (octavoref07_Week.j0 k a0 (decide (a0 > 2958464)))
theorem octavoref07_Week.mono_l : ∀ k, (∀ y0 y1, LeO (octavoref07_Week.j0 k y0 y1) (octavoref07_Week.j0 (k + 1) y0 y1))
 | 0 => fun _ _ r h => by simp [octavoref07_Week.j0] at h
 | k + 1 => by
  have ih0 := octavoref07_Week.mono_l k
  ·intro y0 y1
   unfold octavoref07_Week.j0
   repeat' first
   | (with_reducible exact ih0 _ _)
   | (with_reducible exact octavoref07_Parts.mono _ _)
   | (with_reducible exact octavoref07_first.mono _ _ _)
   | (with_reducible exact LeO.refl _)
   | (with_reducible exact LeO.none _)
   | (with_reducible refine LeO.ite ?_ ?_)
   | (with_reducible refine LeO.bind ?_ (fun _ => ?_))
   | exact ih0 _ _
   | exact octavoref07_Parts.mono _ _
   | exact octavoref07_first.mono _ _ _
   | exact LeO.none _
   | refine LeO.ite ?_ ?_
   | refine LeO.bind ?_ (fun _ => ?_)
theorem octavoref07_Week.mono : ∀ a0 k, LeO (octavoref07_Week.f k a0) (octavoref07_Week.f (k + 1) a0) := by
 intro a0 k
 have ih0 := octavoref07_Week.mono_l k
 unfold octavoref07_Week.f
 repeat' first
   | (with_reducible exact ih0 _ _)
   | (with_reducible exact octavoref07_Parts.mono _ _)
   | (with_reducible exact octavoref07_first.mono _ _ _)
   | (with_reducible exact LeO.refl _)
   | (with_reducible exact LeO.none _)
   | (with_reducible refine LeO.ite ?_ ?_)
   | (with_reducible refine LeO.bind ?_ (fun _ => ?_))
   | exact ih0 _ _
   | exact octavoref07_Parts.mono _ _
   | exact octavoref07_first.mono _ _ _
   | exact LeO.none _
   | refine LeO.ite ?_ ?_
   | refine LeO.bind ?_ (fun _ => ?_)
set_option maxHeartbeats 8000000 in
set_option maxRecDepth 100000 in
theorem octavoref07_Week.calls (k : Nat) (a0 : Int) (r : Int) (w : World) (h : octavoref07_Week.f k a0 = some r) :
  Calls Tryz.prog 73 #[.int .i64 a0] w fun e w' => e = .returned (.int .i64 r) ∧ Drawn0 w w' := by
 have H : (if a0 < 1 then (octavoref07_Week.j0 k a0 true) else (octavoref07_Week.j0 k a0 (decide (a0 > 2958464)))) = some r := h
 clear h
 have HC2 := Aside0.mk H
 clear H
 go_enter Tryz.func73, Tryz.ntmps73
 go_upto_region 1 with (fail)
 go_cut [14] (fun v14 wc => ∃ (kq : Nat) (x14_1 : Bool), v14 = .bool x14_1 ∧ Aside0 (octavoref07_Week.j0 kq a0 x14_1 = some r) ∧ Aside0 (kq ≤ k) ∧ Drawn0 w wc)
 case first =>
  have H := HC2.out
  clear HC2
  by_cases c3 : a0 < 1
  ·rw [if_pos c3] at H
   have c3b0 : decide (a0 < 1) = true := decide_eq_true c3
   clear c3
   (first | rw [c3b0] | (simp only [i64_w, i32_w]; rw [c3b0]) | skip)
   have H' := Aside0.mk H
   clear H
   go_wp2
   go_meet
   case rel => exact ⟨_, (true), zrl, H', ⟨by first | omega | exact Nat.le_refl _⟩, zdn⟩
  ·rw [if_neg c3] at H
   have c3b0 : decide (a0 < 1) = false := decide_eq_false c3
   clear c3
   (first | rw [c3b0] | (simp only [i64_w, i32_w]; rw [c3b0]) | skip)
   have H' := Aside0.mk H
   clear H
   go_wp2
   go_meet
   case rel => exact ⟨_, (decide (a0 > 2958464)), zrl, H', ⟨by first | omega | exact Nat.le_refl _⟩, zdn⟩
 case rest =>
  clear HC2
  try clear p2
  try clear c3
  try clear c3b0
  obtain ⟨kq, x14_1, rfl, HA, HJ1, ⟨mc1, rfl⟩⟩ := hcut
  cases kq with
  | zero => exact absurd HA.out (by simp [octavoref07_Week.j0])
  | succ kj1 =>
   have H := HA.out
   clear HA
   simp only [octavoref07_Week.j0] at H
   by_cases c4 : x14_1 = true
   ·subst c4
    have H1 : (some 0) = some r := by rw [if_pos rfl] at H; exact H
    clear H
    have H := H1
    clear H1
    obtain rfl := Option.some.inj H
    go_wp2
    go_ret
    exact ⟨zrl, zdn⟩
   ·replace c4 := Bool.eq_false_iff.mpr c4
    subst c4
    have H1 : (if (wrap64 ((wrap64 (a0 - (Int.tmod (wrap64 (a0 + 6)) 7))) + 3)) < 1 then (some 1) else (if (wrap64 ((wrap64 (a0 - (Int.tmod (wrap64 (a0 + 6)) 7))) + 3)) > 2958464 then (some 52) else ((octavoref07_Parts.f kj1 (wrap64 ((wrap64 (a0 - (Int.tmod (wrap64 (a0 + 6)) 7))) + 3))).bind fun bt214 => ((octavoref07_first.f kj1 bt214.1 1).bind fun t218 => (some (wrap64 ((wrap64 (Int.tdiv (wrap64 ((wrap64 ((wrap64 ((wrap64 (a0 - (Int.tmod (wrap64 (a0 + 6)) 7))) + 3)) - t218)) - 1)) 7)) + 1))))))) = some r := by rw [if_neg (show ¬ (false = true) by decide)] at H; exact H
    clear H
    have H := H1
    clear H1
    by_cases c5 : (wrap64 ((wrap64 (a0 - (Int.tmod (wrap64 (a0 + 6)) 7))) + 3)) < 1
    ·rw [if_pos c5] at H
     have c5b0 : decide ((wrap64 ((wrap64 (a0 - (Int.tmod (wrap64 (a0 + 6)) 7))) + 3)) < 1) = true := decide_eq_true c5
     clear c5
     obtain rfl := Option.some.inj H
     go_wp2
     go_ret
     exact ⟨zrl, zdn⟩
    ·rw [if_neg c5] at H
     have c5b0 : decide ((wrap64 ((wrap64 (a0 - (Int.tmod (wrap64 (a0 + 6)) 7))) + 3)) < 1) = false := decide_eq_false c5
     clear c5
     by_cases c6 : (wrap64 ((wrap64 (a0 - (Int.tmod (wrap64 (a0 + 6)) 7))) + 3)) > 2958464
     ·rw [if_pos c6] at H
      have c6b0 : decide (2958464 < (wrap64 ((wrap64 (a0 - (Int.tmod (wrap64 (a0 + 6)) 7))) + 3))) = true := decide_eq_true c6
      clear c6
      obtain rfl := Option.some.inj H
      go_wp2
      go_ret
      exact ⟨zrl, zdn⟩
     ·rw [if_neg c6] at H
      have c6b0 : decide (2958464 < (wrap64 ((wrap64 (a0 - (Int.tmod (wrap64 (a0 + 6)) 7))) + 3))) = false := decide_eq_false c6
      clear c6
      replace H := Option.bind_eq_some_iff.mp H
      obtain ⟨⟨t214, t215, t216, t217⟩, A70, H⟩ := H
      replace H : ((octavoref07_first.f kj1 t214 1).bind fun t218 => (some (wrap64 ((wrap64 (Int.tdiv (wrap64 ((wrap64 ((wrap64 ((wrap64 (a0 - (Int.tmod (wrap64 (a0 + 6)) 7))) + 3)) - t218)) - 1)) 7)) + 1)))) = some r := H
      have A7 := Aside0.mk A70
      clear A70
      replace H := Option.bind_eq_some_iff.mp H
      obtain ⟨t218, A80, H⟩ := H
      replace H : (some (wrap64 ((wrap64 (Int.tdiv (wrap64 ((wrap64 ((wrap64 ((wrap64 (a0 - (Int.tmod (wrap64 (a0 + 6)) 7))) + 3)) - t218)) - 1)) 7)) + 1))) = some r := H
      have A8 := Aside0.mk A80
      clear A80
      obtain rfl := Option.some.inj H
      go_wp2_with (first | ((with_reducible refine gate_callee (f := 71) rfl ?_); refine goesL_ (some 28) rfl rfl Tryz.func71 (by kernel_rfl) rfl #[.int .i64 (wrap64 ((wrap64 (a0 - (Int.tmod (wrap64 (a0 + 6)) 7))) + 3))] rfl (by (try simp only [List.map_toArray, List.map_cons, List.map_nil]); first | done | rfl | (simp only [List.length_drop, List.length_take]; rfl)) ?_; (with_reducible refine (octavoref07_Parts.calls kj1 (wrap64 ((wrap64 (a0 - (Int.tmod (wrap64 (a0 + 6)) 7))) + 3)) t214 t215 t216 t217 _ A7.out).mono ?_); rintro e w' ⟨rfl, ⟨nd, rfl⟩⟩; refine ⟨_, rfl, ?_⟩) | ((with_reducible refine gate_callee (f := 108) rfl ?_); refine goesL_ (some 35) rfl rfl Tryz.func108 (by kernel_rfl) rfl #[.int .i64 t214, .int .i64 1] rfl (by (try simp only [List.map_toArray, List.map_cons, List.map_nil]); first | done | rfl | (simp only [List.length_drop, List.length_take]; rfl)) ?_; (with_reducible refine (octavoref07_first.calls kj1 t214 1 t218 _ A8.out).mono ?_); rintro e w' ⟨rfl, ⟨nd, rfl⟩⟩; refine ⟨_, rfl, ?_⟩))
      go_ret
      exact ⟨zrl, zdn⟩
def octavoref07_Weekday.f (a0 : Int) : Option (Int) := if a0 < 1 then (some 0) else (if a0 > 2958464 then (some 0) else (some (wrap64 ((Int.tmod a0 7) + 1))))
set_option maxHeartbeats 8000000 in
set_option maxRecDepth 100000 in
theorem octavoref07_Weekday.calls (a0 : Int) (r : Int) (w : World) (h : octavoref07_Weekday.f a0 = some r) :
  Calls Tryz.prog 72 #[.int .i64 a0] w fun e w' => e = .returned (.int .i64 r) ∧ Drawn0 w w' := by
 have H : (if a0 < 1 then (some 0) else (if a0 > 2958464 then (some 0) else (some (wrap64 ((Int.tmod a0 7) + 1))))) = some r := h
 clear h
 by_cases c2 : a0 < 1
 ·rw [if_pos c2] at H
  have c2b0 : decide (a0 < 1) = true := decide_eq_true c2
  clear c2
  obtain rfl := Option.some.inj H
  go_enter Tryz.func72, Tryz.ntmps72
  go_wp2
  go_ret
  exact ⟨zrl, zdn⟩
 ·rw [if_neg c2] at H
  have c2b0 : decide (a0 < 1) = false := decide_eq_false c2
  clear c2
  by_cases c3 : a0 > 2958464
  ·rw [if_pos c3] at H
   have c3b0 : decide (2958464 < a0) = true := decide_eq_true c3
   clear c3
   obtain rfl := Option.some.inj H
   go_enter Tryz.func72, Tryz.ntmps72
   go_wp2
   go_ret
   exact ⟨zrl, zdn⟩
  ·rw [if_neg c3] at H
   have c3b0 : decide (2958464 < a0) = false := decide_eq_false c3
   clear c3
   obtain rfl := Option.some.inj H
   go_enter Tryz.func72, Tryz.ntmps72
   go_wp2
   go_ret
   exact ⟨zrl, zdn⟩
set_option maxHeartbeats 4000000 in
set_option maxRecDepth 100000 in
theorem value_mapped.callsUpper (g : Int → Int) (hF : ∀ (c : Int) (w : World), 0 ≤ c → c ≤ 255 → Calls Tryz.prog 133 #[.int .u8 c] w fun e w' => e = .returned (.int .u8 (g c)) ∧ w = w') (s : ByteArray) (hs : s.size ≤ 9223372036854775807) (w : World) :
  Calls Tryz.prog 132 #[.string s, .func (.func 133) #[] #[]] w fun e w' => e = .returned (.string (X.mapS g s)) ∧ Below w.heap.size w w' := by
 have hcv := Lib.run_convert_string_bytes (P := Tryz.prog) w 9 109 5 s Tryz.underlying9 Tryz.underlying109 Tryz.underlying5
 have HN : Aside0 (X.BL (Lib.bytesWorld w 5 s) w.heap.size 5 (bytesOf s)) := ⟨X.BL.new _ _ _⟩
 have HB0 : Aside0 (Below w.heap.size w (Lib.bytesWorld w 5 s)) := ⟨X.below_bytes _ _ _⟩
 have HL : Aside0 ((bytesOf s).length = s.size) := ⟨bytesOf_length s⟩
 generalize Lib.bytesWorld w 5 s = w0 at hcv HN HB0
 generalize grownCap w s.size 0 5 = cp at hcv
 generalize hA : bytesOf s = A at HN HL
 have HA := Aside0.mk hA
 clear hA
 go_enter Tryz.func132, Tryz.ntmps132
 go_wp2
 go_loopw [11] (fun v wr => ∃ k : Nat, k ≤ s.size ∧ v = .int .i64 (k : Int) ∧ Aside0 (X.BL wr w.heap.size 5 ((A.take k).map g ++ A.drop k)) ∧ Aside0 (Below w.heap.size w wr)) (fun v _ => s.size - (intOf v).toNat)
 case atStart => exact ⟨0, Nat.zero_le _, rfl, by simpa using HN, HB0⟩
 case round =>
  clear hcv HN HB0
  obtain ⟨k, hk, rfl, HC, HB⟩ := hrel
  by_cases hlt : k < s.size
  ·have hkA : k < A.length := by rw [HL.out]; exact hlt
   obtain ⟨hml, hmg⟩ := X.map_at g A k hkA
   have hkL : k < ((A.take k).map g ++ A.drop k).length := by rw [hml]; exact hkA
   have hcell := HC.out.cell hkL
   rw [hmg hkL] at hcell
   have hfr := HC.out.frozen hkL
   have HS := Aside0.mk (HC.out.set_ hkL (g (A[k]'hkA)))
   have HS2 : Aside0 (X.BL (wr.setCell ⟨w.heap.size, k, none⟩ (.int .u8 (g (A[k]'hkA)))) w.heap.size 5 ((A.take (k + 1)).map g ++ A.drop (k + 1))) := ⟨by rw [← X.map_step g A k hkA]; exact HS.out⟩
   have hr : 0 ≤ A[k]'hkA ∧ A[k]'hkA ≤ 255 := by
    have := HA.out
    subst this
    simp [bytesOf]
    have := (s.data[k]).toNat_lt
    omega
   have hr0 := Aside0.mk hr.1
   have hr1 := Aside0.mk hr.2
   clear hr HS hml hmg
   generalize A[k]'hkA = c at hcell HS2 hr0 hr1
   clear hkA hkL
   have hz : ((k : Int) + 1) ≤ 9223372036854775807 := by omega
   go_wp2_with (go_at_call 133; refine (hF _ _ hr0.out hr1.out).mono ?_; rintro e w2 ⟨rfl, rfl⟩)
   go_roundw
   case rel => exact ⟨k + 1, by omega, by go_num, HS2, ⟨HB.out.setCell (Nat.le_refl _) _⟩⟩
   case measure => simp [intOf]; omega
  ·obtain rfl : k = s.size := by omega
   have hb := HC.out
   rw [List.take_of_length_le (by rw [HL.out]; exact Nat.le_refl _), List.drop_eq_nil_of_le (by rw [HL.out]; exact Nat.le_refl _), List.append_nil] at hb
   have hcv := hb.str (P := Tryz.prog) 109 5 9 Tryz.underlying109 Tryz.underlying5 Tryz.underlying9 cp
   rw [List.length_map, HL.out, ← HA.out] at hcv
   clear hb
   go_wp2
   go_ret
   exact ⟨rfl, HB.out⟩
def value_Upper_1.f (a0 : Int) : Option (Int) := if a0 ≥ 97 then (if a0 ≤ 122 then (some ((((a0 - 97) % 256) + 65) % 256)) else (some a0)) else (some a0)
set_option maxHeartbeats 8000000 in
set_option maxRecDepth 100000 in
theorem value_Upper_1.calls (a0 : Int) (r : Int) (w : World) (h : value_Upper_1.f a0 = some r) :
  Calls Tryz.prog 133 #[.int .u8 a0] w fun e w' => e = .returned (.int .u8 r) ∧ Drawn0 w w' := by
 have H : (if a0 ≥ 97 then (if a0 ≤ 122 then (some ((((a0 - 97) % 256) + 65) % 256)) else (some a0)) else (some a0)) = some r := h
 clear h
 by_cases c2 : a0 ≥ 97
 ·rw [if_pos c2] at H
  have c2b0 : decide (97 ≤ a0) = true := decide_eq_true c2
  clear c2
  by_cases c3 : a0 ≤ 122
  ·rw [if_pos c3] at H
   have c3b0 : decide (a0 ≤ 122) = true := decide_eq_true c3
   clear c3
   obtain rfl := Option.some.inj H
   go_enter Tryz.func133, Tryz.ntmps133
   go_wp2
   go_ret
   exact ⟨zrl, zdn⟩
  ·rw [if_neg c3] at H
   have c3b0 : decide (a0 ≤ 122) = false := decide_eq_false c3
   clear c3
   obtain rfl := Option.some.inj H
   go_enter Tryz.func133, Tryz.ntmps133
   go_wp2
   go_ret
   exact ⟨zrl, zdn⟩
 ·rw [if_neg c2] at H
  have c2b0 : decide (97 ≤ a0) = false := decide_eq_false c2
  clear c2
  obtain rfl := Option.some.inj H
  go_enter Tryz.func133, Tryz.ntmps133
  go_wp2
  go_ret
  exact ⟨zrl, zdn⟩
def value_Upper.f (a0 : ByteArray) : Option (ByteArray) := if a0.size ≤ 9223372036854775807 then some (X.mapS X.gUpper a0) else none
set_option maxRecDepth 100000 in
theorem value_Upper.one (c : Int) (w : World) (h0 : 0 ≤ c) (h1 : c ≤ 255) : Calls Tryz.prog 133 #[.int .u8 c] w fun e w' => e = .returned (.int .u8 (X.gUpper c)) ∧ w = w' := by
 unfold X.gUpper
 by_cases c0 : 97 ≤ c
 ·have c0b : decide (c ≥ 97) = true := decide_eq_true c0
  by_cases c1 : c ≤ 122
  ·have c1b : decide (c ≤ 122) = true := decide_eq_true c1
   rw [if_pos ⟨c0, c1⟩]
   go_enter Tryz.func133, Tryz.ntmps133
   go_wp2
   go_ret
   exact ⟨by rw [show c - 32 = c - 97 + 65 by omega]; rfl, rfl⟩
  ·have c1b : decide (c ≤ 122) = false := decide_eq_false c1
   rw [if_neg (fun h => c1 h.2)]
   go_enter Tryz.func133, Tryz.ntmps133
   go_wp2
   go_ret
   exact ⟨rfl, rfl⟩
 ·have c0b : decide (c ≥ 97) = false := decide_eq_false c0
  rw [if_neg (fun h => c0 h.1)]
  go_enter Tryz.func133, Tryz.ntmps133
  go_wp2
  go_ret
  exact ⟨rfl, rfl⟩
theorem value_Upper.calls (a0 : ByteArray) (r : ByteArray) (w : World) (h : value_Upper.f a0 = some r) :
  Calls Tryz.prog 116 #[.string a0] w fun e w' => e = .returned (.string r) ∧ Below w.heap.size w w' := by
 unfold value_Upper.f at h
 by_cases c0 : a0.size ≤ 9223372036854775807
 ·rw [if_pos c0] at h
  have H0 := Aside0.mk c0
  clear c0
  obtain rfl := Option.some.inj h
  have HM := value_mapped.callsUpper X.gUpper (value_Upper.one) a0 H0.out
  go_enter Tryz.func116, Tryz.ntmps116
  go_wp2_with (go_at_call 132; refine (HM _).mono ?_; rintro e w1 ⟨rfl, hb⟩)
  go_ret
  exact ⟨rfl, hb⟩
 ·rw [if_neg c0] at h
  cases h
def value_word.f (a0 : ByteArray) : Option (Bool × Bool) := (value_Upper.f a0).bind fun t219 => (if t219.toList = ([84, 82, 85, 69] : List UInt8) then (some (true, true)) else (if t219.toList = ([70, 65, 76, 83, 69] : List UInt8) then (some (false, true)) else (some (false, false))))
set_option maxHeartbeats 8000000 in
set_option maxRecDepth 100000 in
theorem value_word.calls (a0 : ByteArray) (r1 : Bool) (r2 : Bool) (w : World) (h : value_word.f a0 = some (r1, r2)) :
  Calls Tryz.prog 79 #[.string a0] w fun e w' => e = .returned (.tuple #[.bool r1, .bool r2]) ∧ Below w.heap.size w w' := by
 have HB := Aside0.mk (Below.refl w.heap.size w)
 have H : ((value_Upper.f a0).bind fun t219 => (if t219.toList = ([84, 82, 85, 69] : List UInt8) then (some (true, true)) else (if t219.toList = ([70, 65, 76, 83, 69] : List UInt8) then (some (false, true)) else (some (false, false))))) = some (r1, r2) := h
 clear h
 replace H := Option.bind_eq_some_iff.mp H
 obtain ⟨t219, A20, H⟩ := H
 replace H : (if t219.toList = ([84, 82, 85, 69] : List UInt8) then (some (true, true)) else (if t219.toList = ([70, 65, 76, 83, 69] : List UInt8) then (some (false, true)) else (some (false, false)))) = some (r1, r2) := H
 have A2 := Aside0.mk A20
 clear A20
 by_cases c3 : t219.toList = ([84, 82, 85, 69] : List UInt8)
 ·rw [if_pos c3] at H
  have c3b0 : (t219.toList == ([84, 82, 85, 69] : List UInt8)) = true := beq_iff_eq.mpr c3
  have c3b1 : (t219.toList != ([84, 82, 85, 69] : List UInt8)) = false := bne_eq_false_iff_eq.mpr c3
  clear c3
  simp only [Option.some.injEq, Prod.mk.injEq] at H
  obtain ⟨rfl, rfl⟩ := H
  go_enter Tryz.func79, Tryz.ntmps79
  go_wp2_with (first | ((with_reducible refine gate_callee (f := 116) rfl ?_); refine goesL_ (some 5) rfl rfl Tryz.func116 (by kernel_rfl) rfl #[.string a0] rfl (by (try simp only [List.map_toArray, List.map_cons, List.map_nil]); first | done | rfl | (simp only [List.length_drop, List.length_take]; rfl)) ?_; (with_reducible refine (value_Upper.calls a0 t219 _ A2.out).mono ?_); rintro e w4 ⟨rfl, hb⟩; refine ⟨_, rfl, ?_⟩; have n0_ := Aside0.mk (below_step (by repeat (first | (with_reducible first | exact HB.out | apply below_alloc | apply pw_below_drewN | apply below_drew1) | exact HB.out)) hb); clear HB; have HB := n0_; clear n0_; (try clear hb); (try clear hb2); (try clear hk); (try clear hi)))
  go_ret2
  exact ⟨by first | rfl | (simp [errW_none, errW_some] <;> rfl) | (simp [*, errW_none, errW_some] <;> rfl), by repeat (first | (with_reducible first | exact HB.out | apply below_alloc | apply pw_below_drewN | apply below_drew1) | exact HB.out)⟩
 ·rw [if_neg c3] at H
  have c3b0 : (t219.toList == ([84, 82, 85, 69] : List UInt8)) = false := beq_eq_false_iff_ne.mpr c3
  have c3b1 : (t219.toList != ([84, 82, 85, 69] : List UInt8)) = true := bne_iff_ne.mpr c3
  by_cases c5 : t219.toList = ([70, 65, 76, 83, 69] : List UInt8)
  ·rw [if_pos c5] at H
   have c5b0 : (t219.toList == ([70, 65, 76, 83, 69] : List UInt8)) = true := beq_iff_eq.mpr c5
   have c5b1 : (t219.toList != ([70, 65, 76, 83, 69] : List UInt8)) = false := bne_eq_false_iff_eq.mpr c5
   clear c5
   simp only [Option.some.injEq, Prod.mk.injEq] at H
   obtain ⟨rfl, rfl⟩ := H
   go_enter Tryz.func79, Tryz.ntmps79
   go_wp2_with (first | ((with_reducible refine gate_callee (f := 116) rfl ?_); refine goesL_ (some 5) rfl rfl Tryz.func116 (by kernel_rfl) rfl #[.string a0] rfl (by (try simp only [List.map_toArray, List.map_cons, List.map_nil]); first | done | rfl | (simp only [List.length_drop, List.length_take]; rfl)) ?_; (with_reducible refine (value_Upper.calls a0 t219 _ A2.out).mono ?_); rintro e w6 ⟨rfl, hb⟩; refine ⟨_, rfl, ?_⟩; have n0_ := Aside0.mk (below_step (by repeat (first | (with_reducible first | exact HB.out | apply below_alloc | apply pw_below_drewN | apply below_drew1) | exact HB.out)) hb); clear HB; have HB := n0_; clear n0_; (try clear hb); (try clear hb2); (try clear hk); (try clear hi)))
   go_ret2
   exact ⟨by first | rfl | (simp [errW_none, errW_some] <;> rfl) | (simp [*, errW_none, errW_some] <;> rfl), by repeat (first | (with_reducible first | exact HB.out | apply below_alloc | apply pw_below_drewN | apply below_drew1) | exact HB.out)⟩
  ·rw [if_neg c5] at H
   have c5b0 : (t219.toList == ([70, 65, 76, 83, 69] : List UInt8)) = false := beq_eq_false_iff_ne.mpr c5
   have c5b1 : (t219.toList != ([70, 65, 76, 83, 69] : List UInt8)) = true := bne_iff_ne.mpr c5
   simp only [Option.some.injEq, Prod.mk.injEq] at H
   obtain ⟨rfl, rfl⟩ := H
   go_enter Tryz.func79, Tryz.ntmps79
   go_wp2_with (first | ((with_reducible refine gate_callee (f := 116) rfl ?_); refine goesL_ (some 5) rfl rfl Tryz.func116 (by kernel_rfl) rfl #[.string a0] rfl (by (try simp only [List.map_toArray, List.map_cons, List.map_nil]); first | done | rfl | (simp only [List.length_drop, List.length_take]; rfl)) ?_; (with_reducible refine (value_Upper.calls a0 t219 _ A2.out).mono ?_); rintro e w7 ⟨rfl, hb⟩; refine ⟨_, rfl, ?_⟩; have n0_ := Aside0.mk (below_step (by repeat (first | (with_reducible first | exact HB.out | apply below_alloc | apply pw_below_drewN | apply below_drew1) | exact HB.out)) hb); clear HB; have HB := n0_; clear n0_; (try clear hb); (try clear hb2); (try clear hk); (try clear hi)))
   go_ret2
   exact ⟨by first | rfl | (simp [errW_none, errW_some] <;> rfl) | (simp [*, errW_none, errW_some] <;> rfl), by repeat (first | (with_reducible first | exact HB.out | apply below_alloc | apply pw_below_drewN | apply below_drew1) | exact HB.out)⟩
end Go.Proofs.YtllceoncpgebpaaGreatDoor.P
