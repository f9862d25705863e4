-- Written by a program of this session (wip/tools/xprint.py), out of the seat's translation. Not trusted: Lean checks it.
import Derived.Test.YtllceoncpgebpaaGreatDoorPx0
import Derived.Test.YtllceoncpgebpaaGreatDoorPx4
namespace Go.Proofs.YtllceoncpgebpaaGreatDoor.P
open Go.RowKit Go.Proofs.YtllceoncpgebpaaGreatDoorW.PrintWords Go.Proofs.YtllceoncpgebpaaGreatDoorW.PrintLast Go.Proofs.YtllceoncpgebpaaGreatDoorW.PrintMore
attribute [local go_sem] max2_int min2_int max_two min_two max_three min_three max_four min_four X.binOp_str_gtr X.binOp_str_leq
set_option linter.unusedVariables false
set_option linter.unusedSimpArgs false
mutual
def octavoref05_Print.j0 : Nat → ByteArray → Int → Option (ByteArray)
 | 0, _, _ => none
 | k + 1, x3, x4 => (octavoref05_Digits.f k (IntKind.u64.wrap (Int.tdiv x4 10000))).bind fun t177 => (if x3.size + t177.size ≤ 9223372036854775807 then ((octavoref05_Digits.f k (IntKind.u64.wrap ((Int.tmod x4 10000) + 10000))).bind fun t178 => (if 1 ≤ (t178.size : Int) then (octavoref05_Print.l0 k (x3 ++ t177) (t178.extract 1 t178.size)) else (none))) else (none))
def octavoref05_Print.l0 : Nat → ByteArray → ByteArray → Option (ByteArray)
 | 0, _, _ => none
 | k + 1, x5, x6 => if (x6.size : Int) > 0 then (if 0 ≤ (wrap64 ((x6.size : Int) - 1)) then (if (wrap64 ((x6.size : Int) - 1)) < (x6.size : Int) then (if (bt x6 (wrap64 ((x6.size : Int) - 1))) = 48 then (if (wrap64 ((x6.size : Int) - 1)) ≤ (x6.size : Int) then (octavoref05_Print.l0 k x5 (x6.extract 0 ((wrap64 ((x6.size : Int) - 1)) : Int).toNat)) else (none)) else (if x6.toList = ([] : List UInt8) then (some x5) else (if 1 + x6.size ≤ 9223372036854775807 then (if x5.size + ((⟨#[46]⟩ : ByteArray) ++ x6).size ≤ 9223372036854775807 then (some (x5 ++ ((⟨#[46]⟩ : ByteArray) ++ x6))) else (none)) else (none)))) else (none)) else (none)) else (if x6.toList = ([] : List UInt8) then (some x5) else (if 1 + x6.size ≤ 9223372036854775807 then (if x5.size + ((⟨#[46]⟩ : ByteArray) ++ x6).size ≤ 9223372036854775807 then (some (x5 ++ ((⟨#[46]⟩ : ByteArray) ++ x6))) else (none)) else (none)))
end
def octavoref05_Print.f (k : Nat) (a0 : Int) : Option (ByteArray) := if a0 < 0 then (octavoref05_Print.j0 k (⟨#[45]⟩ : ByteArray) (IntKind.u64.wrap ((IntKind.u64.wrap (wrap64 (-(wrap64 (a0 + 1))))) + 1))) else (octavoref05_Print.j0 k (⟨#[]⟩ : ByteArray) (IntKind.u64.wrap (a0)))
theorem octavoref05_Print.mono_l : ∀ k, (∀ y0 y1, LeO (octavoref05_Print.j0 k y0 y1) (octavoref05_Print.j0 (k + 1) y0 y1)) ∧ (∀ y0 y1, LeO (octavoref05_Print.l0 k y0 y1) (octavoref05_Print.l0 (k + 1) y0 y1))
 | 0 => ⟨fun _ _ r h => by simp [octavoref05_Print.j0] at h, fun _ _ r h => by simp [octavoref05_Print.l0] at h⟩
 | k + 1 => by
  obtain ⟨ih0, ih1⟩ := octavoref05_Print.mono_l k
  refine ⟨?_, ?_⟩
  ·intro y0 y1
   unfold octavoref05_Print.j0
   repeat' first
   | (with_reducible exact ih0 _ _)
   | (with_reducible exact ih1 _ _)
   | (with_reducible exact octavoref05_Digits.mono _ _)
   | (with_reducible exact LeO.refl _)
   | (with_reducible exact LeO.none _)
   | (with_reducible refine LeO.ite ?_ ?_)
   | (with_reducible refine LeO.bind ?_ (fun _ => ?_))
   | exact ih0 _ _
   | exact ih1 _ _
   | exact octavoref05_Digits.mono _ _
   | exact LeO.none _
   | refine LeO.ite ?_ ?_
   | refine LeO.bind ?_ (fun _ => ?_)
  ·intro y0 y1
   unfold octavoref05_Print.l0
   repeat' first
   | (with_reducible exact ih0 _ _)
   | (with_reducible exact ih1 _ _)
   | (with_reducible exact octavoref05_Digits.mono _ _)
   | (with_reducible exact LeO.refl _)
   | (with_reducible exact LeO.none _)
   | (with_reducible refine LeO.ite ?_ ?_)
   | (with_reducible refine LeO.bind ?_ (fun _ => ?_))
   | exact ih0 _ _
   | exact ih1 _ _
   | exact octavoref05_Digits.mono _ _
   | exact LeO.none _
   | refine LeO.ite ?_ ?_
   | refine LeO.bind ?_ (fun _ => ?_)
theorem octavoref05_Print.mono : ∀ a0 k, LeO (octavoref05_Print.f k a0) (octavoref05_Print.f (k + 1) a0) := by
 intro a0 k
 obtain ⟨ih0, ih1⟩ := octavoref05_Print.mono_l k
 unfold octavoref05_Print.f
 repeat' first
   | (with_reducible exact ih0 _ _)
   | (with_reducible exact ih1 _ _)
   | (with_reducible exact octavoref05_Digits.mono _ _)
   | (with_reducible exact LeO.refl _)
   | (with_reducible exact LeO.none _)
   | (with_reducible refine LeO.ite ?_ ?_)
   | (with_reducible refine LeO.bind ?_ (fun _ => ?_))
   | exact ih0 _ _
   | exact ih1 _ _
   | exact octavoref05_Digits.mono _ _
   | exact LeO.none _
   | refine LeO.ite ?_ ?_
   | refine LeO.bind ?_ (fun _ => ?_)
set_option maxHeartbeats 8000000 in
set_option maxRecDepth 100000 in
theorem octavoref05_Print.calls (k : Nat) (a0 : Int) (r : ByteArray) (w : World) (h : octavoref05_Print.f k a0 = some r) :
  Calls Tryz.prog 110 #[.int .i64 a0] w fun e w' => e = .returned (.string r) ∧ Below w.heap.size w w' := by
 have HB := Aside0.mk (Below.refl w.heap.size w)
 have H : (if a0 < 0 then (octavoref05_Print.j0 k (⟨#[45]⟩ : ByteArray) (IntKind.u64.wrap ((IntKind.u64.wrap (wrap64 (-(wrap64 (a0 + 1))))) + 1))) else (octavoref05_Print.j0 k (⟨#[]⟩ : ByteArray) (IntKind.u64.wrap (a0)))) = some r := h
 clear h
 have HC2 := Aside0.mk H
 clear H
 go_enter Tryz.func110, Tryz.ntmps110
 go_upto_if 8 with (fail)
 go_cut [3, 4] (fun v3 v4 wc => ∃ (kq : Nat) (x3_1 : ByteArray) (x4_1 : Int), v3 = .string x3_1 ∧ v4 = .int .u64 x4_1 ∧ Aside0 (octavoref05_Print.j0 kq x3_1 x4_1 = some r) ∧ Aside0 (kq ≤ k) ∧ Aside0 (Below w.heap.size w wc))
 case first =>
  have H := HC2.out
  clear HC2
  by_cases c3 : a0 < 0
  ·rw [if_pos c3] at H
   have c3b0 : decide (a0 < 0) = true := decide_eq_true c3
   clear c3
   (first | rw [c3b0] | (simp only [i64_w, i32_w]; rw [c3b0]) | skip)
   have H' := Aside0.mk H
   clear H
   go_wp2
   go_meet
   case rel => exact ⟨_, ((⟨#[45]⟩ : ByteArray)), (IntKind.u64.wrap ((IntKind.u64.wrap (wrap64 (-(wrap64 (a0 + 1))))) + 1)), zrl, zrl, H', ⟨by first | omega | exact Nat.le_refl _⟩, ⟨by repeat (first | (with_reducible first | exact HB.out | apply below_alloc | apply pw_below_drewN | apply below_drew1) | exact HB.out)⟩⟩
  ·rw [if_neg c3] at H
   have c3b0 : decide (a0 < 0) = false := decide_eq_false c3
   clear c3
   (first | rw [c3b0] | (simp only [i64_w, i32_w]; rw [c3b0]) | skip)
   have H' := Aside0.mk H
   clear H
   go_wp2
   go_meet
   case rel => exact ⟨_, ((⟨#[]⟩ : ByteArray)), (IntKind.u64.wrap (a0)), zrl, zrl, H', ⟨by first | omega | exact Nat.le_refl _⟩, ⟨by repeat (first | (with_reducible first | exact HB.out | apply below_alloc | apply pw_below_drewN | apply below_drew1) | exact HB.out)⟩⟩
 case rest =>
  clear HC2
  try clear c1
  try clear p2
  try clear c3
  try clear c3b0
  obtain ⟨kq, x3_1, x4_1, rfl, rfl, HA, HJ1, HB⟩ := hcut
  cases kq with
  | zero => exact absurd HA.out (by simp [octavoref05_Print.j0])
  | succ kj1 =>
   have H := HA.out
   clear HA
   simp only [octavoref05_Print.j0] at H
   replace H := Option.bind_eq_some_iff.mp H
   obtain ⟨t177, A40, H⟩ := H
   replace H : (if x3_1.size + t177.size ≤ 9223372036854775807 then ((octavoref05_Digits.f kj1 (IntKind.u64.wrap ((Int.tmod x4_1 10000) + 10000))).bind fun t178 => (if 1 ≤ (t178.size : Int) then (octavoref05_Print.l0 kj1 (x3_1 ++ t177) (t178.extract 1 t178.size)) else (none))) else (none)) = some r := H
   have A4 := Aside0.mk A40
   clear A40
   by_cases c5 : x3_1.size + t177.size ≤ 9223372036854775807
   ·rw [if_pos c5] at H
    have c5b0 := eq_true c5
    have c5b1 : decide (x3_1.size + t177.size ≤ 9223372036854775807) = true := decide_eq_true c5
    try have c5b2 : (9223372036854775807 < x3_1.size + t177.size) = False := eq_false (Nat.not_lt.2 c5)
    replace H := Option.bind_eq_some_iff.mp H
    obtain ⟨t178, A60, H⟩ := H
    replace H : (if 1 ≤ (t178.size : Int) then (octavoref05_Print.l0 kj1 (x3_1 ++ t177) (t178.extract 1 t178.size)) else (none)) = some r := H
    have A6 := Aside0.mk A60
    clear A60
    by_cases c7 : 1 ≤ (t178.size : Int)
    ·rw [if_pos c7] at H
     have c7b0 := eq_true c7
     have c7b1 : decide (1 ≤ (t178.size : Int)) = true := decide_eq_true c7
     clear c7
     have H' := Aside0.mk H
     clear H
     go_wp2_with (first | ((with_reducible refine gate_callee (f := 129) rfl ?_); refine goesL_ (some 19) rfl rfl Tryz.func129 (by kernel_rfl) rfl #[.int .u64 (IntKind.u64.wrap (Int.tdiv x4_1 10000))] rfl (by (try simp only [List.map_toArray, List.map_cons, List.map_nil]); first | done | rfl | (simp only [List.length_drop, List.length_take]; rfl)) ?_; (with_reducible refine (octavoref05_Digits.calls kj1 (IntKind.u64.wrap (Int.tdiv x4_1 10000)) t177 _ A4.out).mono ?_); rintro e w8 ⟨rfl, hb⟩; refine ⟨_, rfl, ?_⟩; have n0_ := Aside0.mk (below_step (by repeat (first | (with_reducible first | exact HB.out | apply below_alloc | apply pw_below_drewN | apply below_drew1) | exact HB.out)) hb); clear HB; have HB := n0_; clear n0_; (try clear hb); (try clear hb2); (try clear hk); (try clear hi)) | ((with_reducible refine gate_callee (f := 129) rfl ?_); refine goesL_ (some 24) rfl rfl Tryz.func129 (by kernel_rfl) rfl #[.int .u64 (IntKind.u64.wrap ((Int.tmod x4_1 10000) + 10000))] rfl (by (try simp only [List.map_toArray, List.map_cons, List.map_nil]); first | done | rfl | (simp only [List.length_drop, List.length_take]; rfl)) ?_; (with_reducible refine (octavoref05_Digits.calls kj1 (IntKind.u64.wrap ((Int.tmod x4_1 10000) + 10000)) t178 _ A6.out).mono ?_); rintro e w9 ⟨rfl, hb⟩; refine ⟨_, rfl, ?_⟩; have n0_ := Aside0.mk (below_step (by repeat (first | (with_reducible first | exact HB.out | apply below_alloc | apply pw_below_drewN | apply below_drew1) | exact HB.out)) hb); clear HB; have HB := n0_; clear n0_; (try clear hb); (try clear hb2); (try clear hk); (try clear hi)))
     go_loopg [6] kj1 (fun kq v6 w' => ∃ (x6_2 : ByteArray), v6 = .string x6_2 ∧ Aside0 (octavoref05_Print.l0 kq (x3_1 ++ t177) x6_2 = some r) ∧ Aside0 (kq ≤ kj1) ∧ Aside0 (Below w.heap.size w w'))
     case atStart => exact ⟨(t178.extract 1 t178.size), zrl, H', ⟨Nat.le_refl _⟩, ⟨by repeat (first | (with_reducible first | exact HB.out | apply below_alloc | apply pw_below_drewN | apply below_drew1) | exact HB.out)⟩⟩
     case round =>
      clear H'
      try clear c1
      try clear p2
      try clear c3
      try clear c3b0
      try clear c5
      try clear c5b0
      try clear c5b1
      try clear c5b2
      try clear p6
      try clear c7
      try clear c7b0
      try clear c7b1
      try clear p2
      obtain ⟨x6_2, rfl, HA, HK2, HB⟩ := hrel
      cases gk with
      | zero => exact absurd HA.out (by simp [octavoref05_Print.l0])
      | succ k2 =>
       have H := HA.out
       clear HA
       simp only [octavoref05_Print.l0] at H
       by_cases c10 : (x6_2.size : Int) > 0
       ·rw [if_pos c10] at H
        have c10b0 : decide (0 < (x6_2.size : Int)) = true := decide_eq_true c10
        have c10b1 : decide (0 < x6_2.size) = true := decide_eq_true (by omega)
        clear c10
        obtain ⟨ji11, hji11⟩ : ∃ j_ : Int, (wrap64 ((x6_2.size : Int) - 1)) = j_ := ⟨_, rfl⟩
        replace H : (if 0 ≤ (ji11) then (if (ji11) < (x6_2.size : Int) then (if (bt x6_2 (ji11)) = 48 then (if (ji11) ≤ (x6_2.size : Int) then (octavoref05_Print.l0 k2 (x3_1 ++ t177) (x6_2.extract 0 ((ji11) : Int).toNat)) else (none)) else (if x6_2.toList = ([] : List UInt8) then (some (x3_1 ++ t177)) else (if 1 + x6_2.size ≤ 9223372036854775807 then (if (x3_1 ++ t177).size + ((⟨#[46]⟩ : ByteArray) ++ x6_2).size ≤ 9223372036854775807 then (some ((x3_1 ++ t177) ++ ((⟨#[46]⟩ : ByteArray) ++ x6_2))) else (none)) else (none)))) else (none)) else (none)) = some r := by first | (rw [hji11] at H; exact H) | (simp only [hji11] at H ⊢; exact H)
        have hji11w : (IntKind.i64.wrap ((x6_2.size : Int) - 1)) = ji11 := (i64_w _).trans hji11
        by_cases c12 : 0 ≤ (ji11)
        ·rw [if_pos c12] at H
         have c12b0 : decide (0 ≤ (ji11)) = true := decide_eq_true c12
         clear c12
         by_cases c13 : (ji11) < (x6_2.size : Int)
         ·rw [if_pos c13] at H
          have c13b0 : decide ((ji11) < (x6_2.size : Int)) = true := decide_eq_true c13
          clear c13
          by_cases c15 : (bt x6_2 (ji11)) = 48
          ·rw [if_pos c15] at H
           have c15b0 : ((bt x6_2 (ji11)) == 48) = true := beq_iff_eq.mpr c15
           have c15b1 : ((bt x6_2 (ji11)) != 48) = false := bne_eq_false_iff_eq.mpr c15
           clear c15
           have c16b0 := eq_true (of_decide_eq_true zas : 0 ≤ (ji11))
           by_cases c17 : (ji11) ≤ (x6_2.size : Int)
           ·rw [if_pos c17] at H
            have c17b0 := eq_true c17
            have c17b1 : decide ((ji11) ≤ (x6_2.size : Int)) = true := decide_eq_true c17
            clear c17
            have H' := Aside0.mk H
            clear H
            have p14 : 0 ≤ ((ji11) : Int) := of_decide_eq_true zas
            have q14 : (ji11) < (x6_2.size : Int) := of_decide_eq_true zas
            have hx14 := bt_at x6_2 (ji11)
            replace p14 := eq_true p14
            replace q14 := eq_true q14
            go_wp2
            go_roundg k2
            case measure => have := HJ1.out; have := HK2.out; omega
            case rel => exact ⟨(x6_2.extract 0 ((ji11) : Int).toNat), (by first | rfl | (simp; done) | (simp only [← hji11] <;> (first | rfl | simp)) | (simp [*]; done)), H', ⟨by have := HJ1.out; have := HK2.out; omega⟩, ⟨by repeat (first | (with_reducible first | exact HB.out | apply below_alloc | apply pw_below_drewN | apply below_drew1) | exact HB.out)⟩⟩
           ·rw [if_neg c17] at H
            exact absurd H (by simp)
          ·rw [if_neg c15] at H
           have c15b0 : ((bt x6_2 (ji11)) == 48) = false := beq_eq_false_iff_ne.mpr c15
           have c15b1 : ((bt x6_2 (ji11)) != 48) = true := bne_iff_ne.mpr c15
           by_cases c18 : x6_2.toList = ([] : List UInt8)
           ·rw [if_pos c18] at H
            have c18b0 : (x6_2.toList == ([] : List UInt8)) = true := beq_iff_eq.mpr c18
            have c18b1 : (x6_2.toList != ([] : List UInt8)) = false := bne_eq_false_iff_eq.mpr c18
            clear c18
            obtain rfl := Option.some.inj H
            have p14 : 0 ≤ ((ji11) : Int) := of_decide_eq_true zas
            have q14 : (ji11) < (x6_2.size : Int) := of_decide_eq_true zas
            have hx14 := bt_at x6_2 (ji11)
            replace p14 := eq_true p14
            replace q14 := eq_true q14
            go_wp2
            go_ret
            exact ⟨by first | rfl | (simp [errW_none, errW_some] <;> rfl) | (simp only [← hji11]; first | rfl | (simp [errW_none, errW_some] <;> rfl)) | (simp [*, errW_none, errW_some] <;> rfl), by repeat (first | (with_reducible first | exact HB.out | apply below_alloc | apply pw_below_drewN | apply below_drew1) | exact HB.out)⟩
           ·rw [if_neg c18] at H
            have c18b0 : (x6_2.toList == ([] : List UInt8)) = false := beq_eq_false_iff_ne.mpr c18
            have c18b1 : (x6_2.toList != ([] : List UInt8)) = true := bne_iff_ne.mpr c18
            by_cases c19 : 1 + x6_2.size ≤ 9223372036854775807
            ·rw [if_pos c19] at H
             have c19b0 := eq_true c19
             have c19b1 : decide (1 + x6_2.size ≤ 9223372036854775807) = true := decide_eq_true c19
             try have c19b2 : (9223372036854775807 < 1 + x6_2.size) = False := eq_false (Nat.not_lt.2 c19)
             by_cases c20 : (x3_1 ++ t177).size + ((⟨#[46]⟩ : ByteArray) ++ x6_2).size ≤ 9223372036854775807
             ·rw [if_pos c20] at H
              have c20b0 := eq_true c20
              have c20b1 : decide ((x3_1 ++ t177).size + ((⟨#[46]⟩ : ByteArray) ++ x6_2).size ≤ 9223372036854775807) = true := decide_eq_true c20
              try have c20b2 : (9223372036854775807 < (x3_1 ++ t177).size + ((⟨#[46]⟩ : ByteArray) ++ x6_2).size) = False := eq_false (Nat.not_lt.2 c20)
              try (have c20b3 := c20; simp only [ByteArray.size_append, Nat.add_zero, Nat.zero_add, show (⟨#[46]⟩ : ByteArray).size = 1 from rfl] at c20b3; have c20b4 := eq_true c20b3; have c20b5 := eq_false (Nat.not_lt.2 c20b3))
              obtain rfl := Option.some.inj H
              have p14 : 0 ≤ ((ji11) : Int) := of_decide_eq_true zas
              have q14 : (ji11) < (x6_2.size : Int) := of_decide_eq_true zas
              have hx14 := bt_at x6_2 (ji11)
              replace p14 := eq_true p14
              replace q14 := eq_true q14
              go_wp2
              go_ret
              exact ⟨by first | rfl | (simp [errW_none, errW_some] <;> rfl) | (simp only [← hji11]; first | rfl | (simp [errW_none, errW_some] <;> rfl)) | (simp [*, errW_none, errW_some] <;> rfl), by repeat (first | (with_reducible first | exact HB.out | apply below_alloc | apply pw_below_drewN | apply below_drew1) | exact HB.out)⟩
             ·rw [if_neg c20] at H
              exact absurd H (by simp)
            ·rw [if_neg c19] at H
             exact absurd H (by simp)
         ·rw [if_neg c13] at H
          exact absurd H (by simp)
        ·rw [if_neg c12] at H
         exact absurd H (by simp)
       ·rw [if_neg c10] at H
        have c10b0 : decide (0 < (x6_2.size : Int)) = false := decide_eq_false c10
        have c10b1 : decide (0 < x6_2.size) = false := decide_eq_false (by omega)
        clear c10
        by_cases c21 : x6_2.toList = ([] : List UInt8)
        ·rw [if_pos c21] at H
         have c21b0 : (x6_2.toList == ([] : List UInt8)) = true := beq_iff_eq.mpr c21
         have c21b1 : (x6_2.toList != ([] : List UInt8)) = false := bne_eq_false_iff_eq.mpr c21
         clear c21
         obtain rfl := Option.some.inj H
         go_wp2
         go_ret
         exact ⟨by first | rfl | (simp [errW_none, errW_some] <;> rfl) | (simp [*, errW_none, errW_some] <;> rfl), by repeat (first | (with_reducible first | exact HB.out | apply below_alloc | apply pw_below_drewN | apply below_drew1) | exact HB.out)⟩
        ·rw [if_neg c21] at H
         have c21b0 : (x6_2.toList == ([] : List UInt8)) = false := beq_eq_false_iff_ne.mpr c21
         have c21b1 : (x6_2.toList != ([] : List UInt8)) = true := bne_iff_ne.mpr c21
         by_cases c22 : 1 + x6_2.size ≤ 9223372036854775807
         ·rw [if_pos c22] at H
          have c22b0 := eq_true c22
          have c22b1 : decide (1 + x6_2.size ≤ 9223372036854775807) = true := decide_eq_true c22
          try have c22b2 : (9223372036854775807 < 1 + x6_2.size) = False := eq_false (Nat.not_lt.2 c22)
          by_cases c23 : (x3_1 ++ t177).size + ((⟨#[46]⟩ : ByteArray) ++ x6_2).size ≤ 9223372036854775807
          ·rw [if_pos c23] at H
           have c23b0 := eq_true c23
           have c23b1 : decide ((x3_1 ++ t177).size + ((⟨#[46]⟩ : ByteArray) ++ x6_2).size ≤ 9223372036854775807) = true := decide_eq_true c23
           try have c23b2 : (9223372036854775807 < (x3_1 ++ t177).size + ((⟨#[46]⟩ : ByteArray) ++ x6_2).size) = False := eq_false (Nat.not_lt.2 c23)
           try (have c23b3 := c23; simp only [ByteArray.size_append, Nat.add_zero, Nat.zero_add, show (⟨#[46]⟩ : ByteArray).size = 1 from rfl] at c23b3; have c23b4 := eq_true c23b3; have c23b5 := eq_false (Nat.not_lt.2 c23b3))
           obtain rfl := Option.some.inj H
           go_wp2
           go_ret
           exact ⟨by first | rfl | (simp [errW_none, errW_some] <;> rfl) | (simp [*, errW_none, errW_some] <;> rfl), by repeat (first | (with_reducible first | exact HB.out | apply below_alloc | apply pw_below_drewN | apply below_drew1) | exact HB.out)⟩
          ·rw [if_neg c23] at H
           exact absurd H (by simp)
         ·rw [if_neg c22] at H
          exact absurd H (by simp)
    ·rw [if_neg c7] at H
     exact absurd H (by simp)
   ·rw [if_neg c5] at H
    exact absurd H (by simp)
def octavoref06_Upper.f (a0 : ByteArray) : Option (ByteArray) := if a0.size ≤ 9223372036854775807 then some (X.mapS X.gUpper a0) else none
set_option maxHeartbeats 4000000 in
set_option maxRecDepth 100000 in
theorem octavoref06_Upper.calls (a0 : ByteArray) (r : ByteArray) (w : World) (h : octavoref06_Upper.f a0 = some r) :
  Calls Tryz.prog 106 #[.string a0] w fun e w' => e = .returned (.string r) ∧ Below w.heap.size w w' := by
 unfold octavoref06_Upper.f at h
 by_cases c0 : a0.size ≤ 9223372036854775807
 rotate_left
 ·rw [if_neg c0] at h
  cases h
 rw [if_pos c0] at h
 obtain rfl := Option.some.inj h
 have hs := c0
 have hcv := Lib.run_convert_string_bytes (P := Tryz.prog) w 9 109 5 a0 Tryz.underlying9 Tryz.underlying109 Tryz.underlying5
 have HN : Aside0 (X.BL (Lib.bytesWorld w 5 a0) w.heap.size 5 (bytesOf a0)) := ⟨X.BL.new _ _ _⟩
 have HB0 : Aside0 (Below w.heap.size w (Lib.bytesWorld w 5 a0)) := ⟨X.below_bytes _ _ _⟩
 have HL : Aside0 ((bytesOf a0).length = a0.size) := ⟨bytesOf_length a0⟩
 generalize Lib.bytesWorld w 5 a0 = w0 at hcv HN HB0
 generalize grownCap w a0.size 0 5 = cp at hcv
 generalize hA : bytesOf a0 = A at HN HL
 have HA := Aside0.mk hA
 clear hA
 go_enter Tryz.func106, Tryz.ntmps106
 go_wp2
 go_loopw [10] (fun v wr => ∃ k : Nat, k ≤ a0.size ∧ v = .int .i64 (k : Int) ∧ Aside0 (X.BL wr w.heap.size 5 ((A.take k).map X.gUpper ++ A.drop k)) ∧ Aside0 (Below w.heap.size w wr)) (fun v _ => a0.size - (intOf v).toNat)
 case atStart => exact ⟨0, Nat.zero_le _, rfl, by simpa using HN, HB0⟩
 case round =>
  clear hcv HN HB0
  obtain ⟨k, hk, rfl, HC, HB⟩ := hrel
  by_cases hlt : k < a0.size
  ·have hkA : k < A.length := by rw [HL.out]; exact hlt
   obtain ⟨hml, hmg⟩ := X.map_at X.gUpper A k hkA
   have hkL : k < ((A.take k).map X.gUpper ++ A.drop k).length := by rw [hml]; exact hkA
   have hcell := HC.out.cell hkL
   rw [hmg hkL] at hcell
   have hfr := HC.out.frozen hkL
   have HS := Aside0.mk (HC.out.set_ hkL (X.gUpper (A[k]'hkA)))
   have HS2 : Aside0 (X.BL (wr.setCell ⟨w.heap.size, k, none⟩ (.int .u8 (X.gUpper (A[k]'hkA)))) w.heap.size 5 ((A.take (k + 1)).map X.gUpper ++ A.drop (k + 1))) := ⟨by rw [← X.map_step X.gUpper A k hkA]; exact HS.out⟩
   have HSn : X.gUpper (A[k]'hkA) = A[k]'hkA → Aside0 (X.BL wr w.heap.size 5 ((A.take (k + 1)).map X.gUpper ++ A.drop (k + 1))) := fun e => ⟨by
    rw [← X.map_step X.gUpper A k hkA, e]
    have e2 : ((A.take k).map X.gUpper ++ A.drop k).set k (A[k]'hkA) = (A.take k).map X.gUpper ++ A.drop k := by
     rw [← hmg hkL]
     exact List.set_getElem_self hkL
    rw [e2]
    exact HC.out⟩
   have hr : 0 ≤ A[k]'hkA ∧ A[k]'hkA ≤ 255 := by
    have := HA.out
    subst this
    simp [bytesOf]
    have := (a0.data[k]).toNat_lt
    omega
   clear HS hml hmg
   generalize A[k]'hkA = c at hcell HS2 HSn hr
   clear hkA hkL
   have hz : ((k : Int) + 1) ≤ 9223372036854775807 := by omega
   obtain ⟨hr0, hr1⟩ := hr
   by_cases d0 : 97 ≤ c
   ·have d0b : decide (c ≥ 97) = true := decide_eq_true d0
    by_cases d1 : c ≤ 122
    ·have d1b : decide (c ≤ 122) = true := decide_eq_true d1
     have e : X.gUpper c = c - 32 := by unfold X.gUpper; rw [if_pos ⟨d0, d1⟩]
     rw [e] at HS2
     clear HSn e
     go_wp2
     go_roundw
     case rel => exact ⟨k + 1, by omega, by go_num, by first | exact HS2 | (rw [show (c - 32) % 256 = c - 32 by omega]; exact HS2), ⟨HB.out.setCell (Nat.le_refl _) _⟩⟩
     case measure => simp [intOf]; omega
    ·have d1b : decide (c ≤ 122) = false := decide_eq_false d1
     have HS3 := HSn (by unfold X.gUpper; rw [if_neg (fun h => d1 h.2)])
     clear HSn HS2
     go_wp2
     go_roundw
     case rel => exact ⟨k + 1, by omega, by go_num, HS3, HB⟩
     case measure => simp [intOf]; omega
   ·have d0b : decide (c ≥ 97) = false := decide_eq_false d0
    have HS3 := HSn (by unfold X.gUpper; rw [if_neg (fun h => d0 h.1)])
    clear HSn HS2
    go_wp2
    go_roundw
    case rel => exact ⟨k + 1, by omega, by go_num, HS3, HB⟩
    case measure => simp [intOf]; omega
  ·obtain rfl : k = a0.size := by omega
   have hb := HC.out
   rw [List.take_of_length_le (by rw [HL.out]; exact Nat.le_refl _), List.drop_eq_nil_of_le (by rw [HL.out]; exact Nat.le_refl _), List.append_nil] at hb
   have hcv := hb.str (P := Tryz.prog) 109 5 9 Tryz.underlying109 Tryz.underlying5 Tryz.underlying9 cp
   rw [List.length_map, HL.out, ← HA.out] at hcv
   clear hb
   go_wp2
   go_ret
   exact ⟨rfl, HB.out⟩
def octavoref06_Truth.f (a0 : ByteArray) : Option (Int) := (octavoref06_Upper.f a0).bind fun t179 => (if t179.toList = ([84, 82, 85, 69] : List UInt8) then (some 1) else (if t179.toList = ([70, 65, 76, 83, 69] : List UInt8) then (some 0) else (some (-1))))
set_option maxHeartbeats 8000000 in
set_option maxRecDepth 100000 in
theorem octavoref06_Truth.calls (a0 : ByteArray) (r : Int) (w : World) (h : octavoref06_Truth.f a0 = some r) :
  Calls Tryz.prog 61 #[.string a0] w fun e w' => e = .returned (.int .i64 r) ∧ Below w.heap.size w w' := by
 have HB := Aside0.mk (Below.refl w.heap.size w)
 have H : ((octavoref06_Upper.f a0).bind fun t179 => (if t179.toList = ([84, 82, 85, 69] : List UInt8) then (some 1) else (if t179.toList = ([70, 65, 76, 83, 69] : List UInt8) then (some 0) else (some (-1))))) = some r := h
 clear h
 replace H := Option.bind_eq_some_iff.mp H
 obtain ⟨t179, A20, H⟩ := H
 replace H : (if t179.toList = ([84, 82, 85, 69] : List UInt8) then (some 1) else (if t179.toList = ([70, 65, 76, 83, 69] : List UInt8) then (some 0) else (some (-1)))) = some r := H
 have A2 := Aside0.mk A20
 clear A20
 by_cases c3 : t179.toList = ([84, 82, 85, 69] : List UInt8)
 ·rw [if_pos c3] at H
  have c3b0 : (t179.toList == ([84, 82, 85, 69] : List UInt8)) = true := beq_iff_eq.mpr c3
  have c3b1 : (t179.toList != ([84, 82, 85, 69] : List UInt8)) = false := bne_eq_false_iff_eq.mpr c3
  clear c3
  obtain rfl := Option.some.inj H
  go_enter Tryz.func61, Tryz.ntmps61
  go_wp2_with (first | ((with_reducible refine gate_callee (f := 106) rfl ?_); refine goesL_ (some 4) rfl rfl Tryz.func106 (by kernel_rfl) rfl #[.string a0] rfl (by (try simp only [List.map_toArray, List.map_cons, List.map_nil]); first | done | rfl | (simp only [List.length_drop, List.length_take]; rfl)) ?_; (with_reducible refine (octavoref06_Upper.calls a0 t179 _ A2.out).mono ?_); rintro e w4 ⟨rfl, hb⟩; refine ⟨_, rfl, ?_⟩; have n0_ := Aside0.mk (below_step (by repeat (first | (with_reducible first | exact HB.out | apply below_alloc | apply pw_below_drewN | apply below_drew1) | exact HB.out)) hb); clear HB; have HB := n0_; clear n0_; (try clear hb); (try clear hb2); (try clear hk); (try clear hi)))
  go_ret
  exact ⟨by first | rfl | (simp [errW_none, errW_some] <;> rfl) | (simp [*, errW_none, errW_some] <;> rfl), by repeat (first | (with_reducible first | exact HB.out | apply below_alloc | apply pw_below_drewN | apply below_drew1) | exact HB.out)⟩
 ·rw [if_neg c3] at H
  have c3b0 : (t179.toList == ([84, 82, 85, 69] : List UInt8)) = false := beq_eq_false_iff_ne.mpr c3
  have c3b1 : (t179.toList != ([84, 82, 85, 69] : List UInt8)) = true := bne_iff_ne.mpr c3
  by_cases c5 : t179.toList = ([70, 65, 76, 83, 69] : List UInt8)
  ·rw [if_pos c5] at H
   have c5b0 : (t179.toList == ([70, 65, 76, 83, 69] : List UInt8)) = true := beq_iff_eq.mpr c5
   have c5b1 : (t179.toList != ([70, 65, 76, 83, 69] : List UInt8)) = false := bne_eq_false_iff_eq.mpr c5
   clear c5
   obtain rfl := Option.some.inj H
   go_enter Tryz.func61, Tryz.ntmps61
   go_wp2_with (first | ((with_reducible refine gate_callee (f := 106) rfl ?_); refine goesL_ (some 4) rfl rfl Tryz.func106 (by kernel_rfl) rfl #[.string a0] rfl (by (try simp only [List.map_toArray, List.map_cons, List.map_nil]); first | done | rfl | (simp only [List.length_drop, List.length_take]; rfl)) ?_; (with_reducible refine (octavoref06_Upper.calls a0 t179 _ A2.out).mono ?_); rintro e w6 ⟨rfl, hb⟩; refine ⟨_, rfl, ?_⟩; have n0_ := Aside0.mk (below_step (by repeat (first | (with_reducible first | exact HB.out | apply below_alloc | apply pw_below_drewN | apply below_drew1) | exact HB.out)) hb); clear HB; have HB := n0_; clear n0_; (try clear hb); (try clear hb2); (try clear hk); (try clear hi)))
   go_ret
   exact ⟨by first | rfl | (simp [errW_none, errW_some] <;> rfl) | (simp [*, errW_none, errW_some] <;> rfl), by repeat (first | (with_reducible first | exact HB.out | apply below_alloc | apply pw_below_drewN | apply below_drew1) | exact HB.out)⟩
  ·rw [if_neg c5] at H
   have c5b0 : (t179.toList == ([70, 65, 76, 83, 69] : List UInt8)) = false := beq_eq_false_iff_ne.mpr c5
   have c5b1 : (t179.toList != ([70, 65, 76, 83, 69] : List UInt8)) = true := bne_iff_ne.mpr c5
   obtain rfl := Option.some.inj H
   go_enter Tryz.func61, Tryz.ntmps61
   go_wp2_with (first | ((with_reducible refine gate_callee (f := 106) rfl ?_); refine goesL_ (some 4) rfl rfl Tryz.func106 (by kernel_rfl) rfl #[.string a0] rfl (by (try simp only [List.map_toArray, List.map_cons, List.map_nil]); first | done | rfl | (simp only [List.length_drop, List.length_take]; rfl)) ?_; (with_reducible refine (octavoref06_Upper.calls a0 t179 _ A2.out).mono ?_); rintro e w7 ⟨rfl, hb⟩; refine ⟨_, rfl, ?_⟩; have n0_ := Aside0.mk (below_step (by repeat (first | (with_reducible first | exact HB.out | apply below_alloc | apply pw_below_drewN | apply below_drew1) | exact HB.out)) hb); clear HB; have HB := n0_; clear n0_; (try clear hb); (try clear hb2); (try clear hk); (try clear hi)))
   go_ret
   exact ⟨by first | rfl | (simp [errW_none, errW_some] <;> rfl) | (simp [*, errW_none, errW_some] <;> rfl), by repeat (first | (with_reducible first | exact HB.out | apply below_alloc | apply pw_below_drewN | apply below_drew1) | exact HB.out)⟩
def octavoref07_Leap.f (a0 : Int) : Option (Bool) := if (Int.tmod a0 4) = 0 then (if (Int.tmod a0 100) = 0 then (some ((Int.tmod a0 400) == 0)) else (some true)) else (some false)
set_option maxHeartbeats 8000000 in
set_option maxRecDepth 100000 in
theorem octavoref07_Leap.calls (a0 : Int) (r : Bool) (w : World) (h : octavoref07_Leap.f a0 = some r) :
  Calls Tryz.prog 128 #[.int .i64 a0] w fun e w' => e = .returned (.bool r) ∧ Drawn0 w w' := by
 have H : (if (Int.tmod a0 4) = 0 then (if (Int.tmod a0 100) = 0 then (some ((Int.tmod a0 400) == 0)) else (some true)) else (some false)) = some r := h
 clear h
 by_cases c2 : (Int.tmod a0 4) = 0
 ·rw [if_pos c2] at H
  have c2b0 : ((Int.tmod a0 4) == 0) = true := beq_iff_eq.mpr c2
  have c2b1 : ((Int.tmod a0 4) != 0) = false := bne_eq_false_iff_eq.mpr c2
  clear c2
  by_cases c3 : (Int.tmod a0 100) = 0
  ·rw [if_pos c3] at H
   have c3b0 : ((Int.tmod a0 100) == 0) = true := beq_iff_eq.mpr c3
   have c3b1 : ((Int.tmod a0 100) != 0) = false := bne_eq_false_iff_eq.mpr c3
   clear c3
   obtain rfl := Option.some.inj H
   go_enter Tryz.func128, Tryz.ntmps128
   go_wp2
   go_ret
   exact ⟨zrl, zdn⟩
  ·rw [if_neg c3] at H
   have c3b0 : ((Int.tmod a0 100) == 0) = false := beq_eq_false_iff_ne.mpr c3
   have c3b1 : ((Int.tmod a0 100) != 0) = true := bne_iff_ne.mpr c3
   obtain rfl := Option.some.inj H
   go_enter Tryz.func128, Tryz.ntmps128
   go_wp2
   go_ret
   exact ⟨zrl, zdn⟩
 ·rw [if_neg c2] at H
  have c2b0 : ((Int.tmod a0 4) == 0) = false := beq_eq_false_iff_ne.mpr c2
  have c2b1 : ((Int.tmod a0 4) != 0) = true := bne_iff_ne.mpr c2
  obtain rfl := Option.some.inj H
  go_enter Tryz.func128, Tryz.ntmps128
  go_wp2
  go_ret
  exact ⟨zrl, zdn⟩
def octavoref07_Last.j0 : Nat → Int → Int → Bool → Option (Int)
 | 0, _, _, _ => none
 | k + 1, x0, x1, x10 => if x10 = true then (some 0) else (if x1 = 2 then ((octavoref07_Leap.f x0).bind fun t180 => (if t180 = true then (some 29) else (if 0 ≤ x1 then (if x1 < 13 then (some (rd ([0, 31, 28, 31, 30, 31, 30, 31, 31, 30, 31, 30, 31] : List Int) x1)) else (none)) else (none)))) else (if 0 ≤ x1 then (if x1 < 13 then (some (rd ([0, 31, 28, 31, 30, 31, 30, 31, 31, 30, 31, 30, 31] : List Int) x1)) else (none)) else (none)))
def octavoref07_Last.f (k : Nat) (a0 : Int) (a1 : Int) : Option (Int) := if a1 < 1 then (octavoref07_Last.j0 k a0 a1 true) else (octavoref07_Last.j0 k a0 a1 (decide (a1 > 12)))
theorem octavoref07_Last.mono_l : ∀ k, (∀ y0 y1 y2, LeO (octavoref07_Last.j0 k y0 y1 y2) (octavoref07_Last.j0 (k + 1) y0 y1 y2))
 | 0 => fun _ _ _ r h => by simp [octavoref07_Last.j0] at h
 | k + 1 => by
  have ih0 := octavoref07_Last.mono_l k
  ·intro y0 y1 y2
   unfold octavoref07_Last.j0
   repeat' first
   | (with_reducible exact ih0 _ _ _)
   | (with_reducible exact LeO.refl _)
   | (with_reducible exact LeO.none _)
   | (with_reducible refine LeO.ite ?_ ?_)
   | (with_reducible refine LeO.bind ?_ (fun _ => ?_))
   | exact ih0 _ _ _
   | exact LeO.none _
   | refine LeO.ite ?_ ?_
   | refine LeO.bind ?_ (fun _ => ?_)
theorem octavoref07_Last.mono : ∀ a0 a1 k, LeO (octavoref07_Last.f k a0 a1) (octavoref07_Last.f (k + 1) a0 a1) := by
 intro a0 a1 k
 have ih0 := octavoref07_Last.mono_l k
 unfold octavoref07_Last.f
 repeat' first
   | (with_reducible exact ih0 _ _ _)
   | (with_reducible exact LeO.refl _)
   | (with_reducible exact LeO.none _)
   | (with_reducible refine LeO.ite ?_ ?_)
   | (with_reducible refine LeO.bind ?_ (fun _ => ?_))
   | exact ih0 _ _ _
   | exact LeO.none _
   | refine LeO.ite ?_ ?_
   | refine LeO.bind ?_ (fun _ => ?_)
set_option maxHeartbeats 8000000 in
set_option maxRecDepth 100000 in
theorem octavoref07_Last.calls (k : Nat) (a0 : Int) (a1 : Int) (r : Int) (w : World) (h : octavoref07_Last.f k a0 a1 = some r) :
  Calls Tryz.prog 109 #[.int .i64 a0, .int .i64 a1] w fun e w' => e = .returned (.int .i64 r) ∧ Drawn0 w w' := by
 have hu110 := Tryz.underlying110
 have H : (if a1 < 1 then (octavoref07_Last.j0 k a0 a1 true) else (octavoref07_Last.j0 k a0 a1 (decide (a1 > 12)))) = some r := h
 clear h
 have HC3 := Aside0.mk H
 clear H
 go_enter Tryz.func109, Tryz.ntmps109
 go_upto_region 1 with (fail)
 go_cut [10] (fun v10 wc => ∃ (kq : Nat) (x10_2 : Bool), v10 = .bool x10_2 ∧ Aside0 (octavoref07_Last.j0 kq a0 a1 x10_2 = some r) ∧ Aside0 (kq ≤ k) ∧ Drawn0 w wc)
 case first =>
  have H := HC3.out
  clear HC3
  by_cases c4 : a1 < 1
  ·rw [if_pos c4] at H
   have c4b0 : decide (a1 < 1) = true := decide_eq_true c4
   clear c4
   (first | rw [c4b0] | (simp only [i64_w, i32_w]; rw [c4b0]) | skip)
   have H' := Aside0.mk H
   clear H
   go_wp2
   go_meet
   case rel => exact ⟨_, (true), zrl, H', ⟨by first | omega | exact Nat.le_refl _⟩, zdn⟩
  ·rw [if_neg c4] at H
   have c4b0 : decide (a1 < 1) = false := decide_eq_false c4
   clear c4
   (first | rw [c4b0] | (simp only [i64_w, i32_w]; rw [c4b0]) | skip)
   have H' := Aside0.mk H
   clear H
   go_wp2
   go_meet
   case rel => exact ⟨_, (decide (a1 > 12)), zrl, H', ⟨by first | omega | exact Nat.le_refl _⟩, zdn⟩
 case rest =>
  clear HC3
  try clear c1
  try clear p2
  try clear c4
  try clear c4b0
  obtain ⟨kq, x10_2, rfl, HA, HJ2, ⟨mc2, rfl⟩⟩ := hcut
  cases kq with
  | zero => exact absurd HA.out (by simp [octavoref07_Last.j0])
  | succ kj2 =>
   have H := HA.out
   clear HA
   simp only [octavoref07_Last.j0] at H
   by_cases c5 : x10_2 = true
   ·subst c5
    have H1 : (some 0) = some r := by rw [if_pos rfl] at H; exact H
    clear H
    have H := H1
    clear H1
    obtain rfl := Option.some.inj H
    go_wp2
    go_ret
    exact ⟨zrl, zdn⟩
   ·replace c5 := Bool.eq_false_iff.mpr c5
    subst c5
    have H1 : (if a1 = 2 then ((octavoref07_Leap.f a0).bind fun t180 => (if t180 = true then (some 29) else (if 0 ≤ a1 then (if a1 < 13 then (some (rd ([0, 31, 28, 31, 30, 31, 30, 31, 31, 30, 31, 30, 31] : List Int) a1)) else (none)) else (none)))) else (if 0 ≤ a1 then (if a1 < 13 then (some (rd ([0, 31, 28, 31, 30, 31, 30, 31, 31, 30, 31, 30, 31] : List Int) a1)) else (none)) else (none))) = some r := by rw [if_neg (show ¬ (false = true) by decide)] at H; exact H
    clear H
    have H := H1
    clear H1
    by_cases c6 : a1 = 2
    ·rw [if_pos c6] at H
     have c6b0 : (a1 == 2) = true := beq_iff_eq.mpr c6
     have c6b1 : (a1 != 2) = false := bne_eq_false_iff_eq.mpr c6
     clear c6
     replace H := Option.bind_eq_some_iff.mp H
     obtain ⟨t180, A70, H⟩ := H
     replace H : (if t180 = true then (some 29) else (if 0 ≤ a1 then (if a1 < 13 then (some (rd ([0, 31, 28, 31, 30, 31, 30, 31, 31, 30, 31, 30, 31] : List Int) a1)) else (none)) else (none))) = some r := H
     have A7 := Aside0.mk A70
     clear A70
     by_cases c8 : t180 = true
     ·subst c8
      have H1 : (some 29) = some r := by rw [if_pos rfl] at H; exact H
      clear H
      have H := H1
      clear H1
      obtain rfl := Option.some.inj H
      go_wp2_with (first | (go_at_call 128; (with_reducible refine (octavoref07_Leap.calls a0 true _ A7.out).mono ?_); rintro e w' ⟨rfl, ⟨nd, rfl⟩⟩))
      go_ret
      exact ⟨zrl, zdn⟩
     ·replace c8 := Bool.eq_false_iff.mpr c8
      subst c8
      have H1 : (if 0 ≤ a1 then (if a1 < 13 then (some (rd ([0, 31, 28, 31, 30, 31, 30, 31, 31, 30, 31, 30, 31] : List Int) a1)) else (none)) else (none)) = some r := by rw [if_neg (show ¬ (false = true) by decide)] at H; exact H
      clear H
      have H := H1
      clear H1
      by_cases c9 : 0 ≤ a1
      ·rw [if_pos c9] at H
       have c9b0 : decide (0 ≤ a1) = true := decide_eq_true c9
       clear c9
       by_cases c10 : a1 < 13
       ·rw [if_pos c10] at H
        have c10b0 : decide (a1 < 13) = true := decide_eq_true c10
        clear c10
        obtain rfl := Option.some.inj H
        go_wp2_with (first | (go_at_call 128; (with_reducible refine (octavoref07_Leap.calls a0 false _ A7.out).mono ?_); rintro e w' ⟨rfl, ⟨nd, rfl⟩⟩; have p11 : 0 ≤ (a1 : Int) := of_decide_eq_true zas; have q11 : a1 < (13 : Int) := of_decide_eq_true zas; have hx11 : ∀ w_ : World, (Instr.index 110 (.agg #[.int .i64 0, .int .i64 31, .int .i64 28, .int .i64 31, .int .i64 30, .int .i64 31, .int .i64 30, .int .i64 31, .int .i64 31, .int .i64 30, .int .i64 31, .int .i64 30, .int .i64 31]) (.int .i64 a1)).run Tryz.prog w_ = .ok (.int .i64 (rd ([0, 31, 28, 31, 30, 31, 30, 31, 31, 30, 31, 30, 31] : List Int) a1)) w_ := fun w_ => X.run_index_array 110 3 13 _ _ _ _ (by kernel_rfl) (by kernel_rfl) (by kernel_rfl) p11 q11 (X.at_ints .i64 ([0, 31, 28, 31, 30, 31, 30, 31, 31, 30, 31, 30, 31] : List Int) a1 q11 p11); replace p11 := eq_true p11; replace q11 := eq_true q11))
        go_ret
        exact ⟨zrl, zdn⟩
       ·rw [if_neg c10] at H
        exact absurd H (by simp)
      ·rw [if_neg c9] at H
       exact absurd H (by simp)
    ·rw [if_neg c6] at H
     have c6b0 : (a1 == 2) = false := beq_eq_false_iff_ne.mpr c6
     have c6b1 : (a1 != 2) = true := bne_iff_ne.mpr c6
     by_cases c12 : 0 ≤ a1
     ·rw [if_pos c12] at H
      have c12b0 : decide (0 ≤ a1) = true := decide_eq_true c12
      clear c12
      by_cases c13 : a1 < 13
      ·rw [if_pos c13] at H
       have c13b0 : decide (a1 < 13) = true := decide_eq_true c13
       clear c13
       obtain rfl := Option.some.inj H
       have p14 : 0 ≤ (a1 : Int) := of_decide_eq_true zas
       have q14 : a1 < (13 : Int) := of_decide_eq_true zas
       have hx14 : ∀ w_ : World, (Instr.index 110 (.agg #[.int .i64 0, .int .i64 31, .int .i64 28, .int .i64 31, .int .i64 30, .int .i64 31, .int .i64 30, .int .i64 31, .int .i64 31, .int .i64 30, .int .i64 31, .int .i64 30, .int .i64 31]) (.int .i64 a1)).run Tryz.prog w_ = .ok (.int .i64 (rd ([0, 31, 28, 31, 30, 31, 30, 31, 31, 30, 31, 30, 31] : List Int) a1)) w_ := fun w_ => X.run_index_array 110 3 13 _ _ _ _ (by kernel_rfl) (by kernel_rfl) (by kernel_rfl) p14 q14 (X.at_ints .i64 ([0, 31, 28, 31, 30, 31, 30, 31, 31, 30, 31, 30, 31] : List Int) a1 q14 p14)
       replace p14 := eq_true p14
       replace q14 := eq_true q14
       go_wp2
       go_ret
       exact ⟨zrl, zdn⟩
      ·rw [if_neg c13] at H
       exact absurd H (by simp)
     ·rw [if_neg c12] at H
      exact absurd H (by simp)
def octavoref07_ahead.f (a0 : Int) : Option (Int) := some (wrap64 ((wrap64 (365 * (wrap64 (a0 - 1900)))) + (wrap64 ((wrap64 ((wrap64 ((wrap64 (Int.tdiv (wrap64 (a0 - 1)) 4)) - (wrap64 (Int.tdiv (wrap64 (a0 - 1)) 100)))) + (wrap64 (Int.tdiv (wrap64 (a0 - 1)) 400)))) - 460))))
set_option maxHeartbeats 8000000 in
set_option maxRecDepth 100000 in
theorem octavoref07_ahead.calls (a0 : Int) (r : Int) (w : World) (h : octavoref07_ahead.f a0 = some r) :
  Calls Tryz.prog 113 #[.int .i64 a0] w fun e w' => e = .returned (.int .i64 r) ∧ Drawn0 w w' := by
 have H : (some (wrap64 ((wrap64 (365 * (wrap64 (a0 - 1900)))) + (wrap64 ((wrap64 ((wrap64 ((wrap64 (Int.tdiv (wrap64 (a0 - 1)) 4)) - (wrap64 (Int.tdiv (wrap64 (a0 - 1)) 100)))) + (wrap64 (Int.tdiv (wrap64 (a0 - 1)) 400)))) - 460))))) = some r := h
 clear h
 obtain rfl := Option.some.inj H
 go_enter Tryz.func113, Tryz.ntmps113
 go_wp2
 go_ret
 exact ⟨zrl, zdn⟩
def octavoref07_first.l0 : Nat → Int → Int → Int → Int → Option (Int)
 | 0, _, _, _, _ => none
 | k + 1, x0, x1, x5, x6 => if x6 < x1 then ((octavoref07_Last.f k x0 x6).bind fun t182 => (octavoref07_first.l0 k x0 x1 (wrap64 (x5 + t182)) (wrap64 (x6 + 1)))) else (some x5)
def octavoref07_first.f (k : Nat) (a0 : Int) (a1 : Int) : Option (Int) := (octavoref07_ahead.f a0).bind fun t181 => (octavoref07_first.l0 k a0 a1 t181 1)
theorem octavoref07_first.mono_l : ∀ k, (∀ y0 y1 y2 y3, LeO (octavoref07_first.l0 k y0 y1 y2 y3) (octavoref07_first.l0 (k + 1) y0 y1 y2 y3))
 | 0 => fun _ _ _ _ r h => by simp [octavoref07_first.l0] at h
 | k + 1 => by
  have ih0 := octavoref07_first.mono_l k
  ·intro y0 y1 y2 y3
   unfold octavoref07_first.l0
   repeat' first
   | (with_reducible exact ih0 _ _ _ _)
   | (with_reducible exact octavoref07_Last.mono _ _ _)
   | (with_reducible exact LeO.refl _)
   | (with_reducible exact LeO.none _)
   | (with_reducible refine LeO.ite ?_ ?_)
   | (with_reducible refine LeO.bind ?_ (fun _ => ?_))
   | exact ih0 _ _ _ _
   | exact octavoref07_Last.mono _ _ _
   | exact LeO.none _
   | refine LeO.ite ?_ ?_
   | refine LeO.bind ?_ (fun _ => ?_)
theorem octavoref07_first.mono : ∀ a0 a1 k, LeO (octavoref07_first.f k a0 a1) (octavoref07_first.f (k + 1) a0 a1) := by
 intro a0 a1 k
 have ih0 := octavoref07_first.mono_l k
 unfold octavoref07_first.f
 repeat' first
   | (with_reducible exact ih0 _ _ _ _)
   | (with_reducible exact octavoref07_Last.mono _ _ _)
   | (with_reducible exact LeO.refl _)
   | (with_reducible exact LeO.none _)
   | (with_reducible refine LeO.ite ?_ ?_)
   | (with_reducible refine LeO.bind ?_ (fun _ => ?_))
   | exact ih0 _ _ _ _
   | exact octavoref07_Last.mono _ _ _
   | exact LeO.none _
   | refine LeO.ite ?_ ?_
   | refine LeO.bind ?_ (fun _ => ?_)
set_option maxHeartbeats 8000000 in
set_option maxRecDepth 100000 in
theorem octavoref07_first.calls (k : Nat) (a0 : Int) (a1 : Int) (r : Int) (w : World) (h : octavoref07_first.f k a0 a1 = some r) :
  Calls Tryz.prog 108 #[.int .i64 a0, .int .i64 a1] w fun e w' => e = .returned (.int .i64 r) ∧ Drawn0 w w' := by
 have H : ((octavoref07_ahead.f a0).bind fun t181 => (octavoref07_first.l0 k a0 a1 t181 1)) = some r := h
 clear h
 replace H := Option.bind_eq_some_iff.mp H
 obtain ⟨t181, A30, H⟩ := H
 replace H : (octavoref07_first.l0 k a0 a1 t181 1) = some r := H
 have A3 := Aside0.mk A30
 clear A30
 have H' := Aside0.mk H
 clear H
 go_enter Tryz.func108, Tryz.ntmps108
 go_wp2_with (first | ((with_reducible refine gate_callee (f := 113) rfl ?_); refine goesL_ (some 8) rfl rfl Tryz.func113 (by kernel_rfl) rfl #[.int .i64 a0] rfl (by (try simp only [List.map_toArray, List.map_cons, List.map_nil]); first | done | rfl | (simp only [List.length_drop, List.length_take]; rfl)) ?_; (with_reducible refine (octavoref07_ahead.calls a0 t181 _ A3.out).mono ?_); rintro e w' ⟨rfl, ⟨nd, rfl⟩⟩; refine ⟨_, rfl, ?_⟩))
 go_loopg [5, 6] k (fun kq v5 v6 w' => ∃ (x5_1 : Int) (x6_1 : Int), v5 = .int .i64 x5_1 ∧ v6 = .int .i64 x6_1 ∧ Aside0 (octavoref07_first.l0 kq a0 a1 x5_1 x6_1 = some r) ∧ Aside0 (kq ≤ k) ∧ Drawn0 w w')
 case atStart => exact ⟨(t181), (1), zrl, zrl, H', ⟨Nat.le_refl _⟩, zdn⟩
 case round =>
  clear H'
  try clear c1
  try clear p2
  obtain ⟨x5_1, x6_1, rfl, rfl, HA, HK1, ⟨m1, rfl⟩⟩ := hrel
  cases gk with
  | zero => exact absurd HA.out (by simp [octavoref07_first.l0])
  | succ k1 =>
   have H := HA.out
   clear HA
   simp only [octavoref07_first.l0] at H
   by_cases c4 : x6_1 < a1
   ·rw [if_pos c4] at H
    have c4b0 : decide (x6_1 < a1) = true := decide_eq_true c4
    clear c4
    replace H := Option.bind_eq_some_iff.mp H
    obtain ⟨t182, A50, H⟩ := H
    replace H : (octavoref07_first.l0 k1 a0 a1 (wrap64 (x5_1 + t182)) (wrap64 (x6_1 + 1))) = some r := H
    have A5 := Aside0.mk A50
    clear A50
    have H' := Aside0.mk H
    clear H
    go_wp2_with (first | ((with_reducible refine gate_callee (f := 109) rfl ?_); refine goesL_ (some 17) rfl rfl Tryz.func109 (by kernel_rfl) rfl #[.int .i64 a0, .int .i64 x6_1] rfl (by (try simp only [List.map_toArray, List.map_cons, List.map_nil]); first | done | rfl | (simp only [List.length_drop, List.length_take]; rfl)) ?_; (with_reducible refine (octavoref07_Last.calls k1 a0 x6_1 t182 _ A5.out).mono ?_); rintro e w' ⟨rfl, ⟨nd, rfl⟩⟩; refine ⟨_, rfl, ?_⟩))
    go_roundg k1
    case measure => have := HK1.out; omega
    case rel => exact ⟨(wrap64 (x5_1 + t182)), (wrap64 (x6_1 + 1)), zrl, zrl, H', ⟨by have := HK1.out; omega⟩, zdn⟩
   ·rw [if_neg c4] at H
    have c4b0 : decide (x6_1 < a1) = false := decide_eq_false c4
    clear c4
    obtain rfl := Option.some.inj H
    go_wp2
    go_ret
    exact ⟨zrl, zdn⟩
def octavoref07_Day.f (k : Nat) (a0 : Int) (a1 : Int) (a2 : Int) : Option (Int × Bool) := if a0 < 1900 then (some (0, false)) else (if a0 > 9999 then (some (0, false)) else (if a2 < 1 then (some (0, false)) else ((octavoref07_Last.f k a0 a1).bind fun t183 => (if a2 > t183 then (some (0, false)) else ((octavoref07_first.f k a0 a1).bind fun t184 => (some (wrap64 (t184 + a2), true)))))))
theorem octavoref07_Day.mono : ∀ a0 a1 a2 k, LeO (octavoref07_Day.f k a0 a1 a2) (octavoref07_Day.f (k + 1) a0 a1 a2) := by
 intro a0 a1 a2 k
 unfold octavoref07_Day.f
 repeat' first
   | (with_reducible exact octavoref07_Last.mono _ _ _)
   | (with_reducible exact octavoref07_first.mono _ _ _)
   | (with_reducible exact LeO.refl _)
   | (with_reducible exact LeO.none _)
   | (with_reducible refine LeO.ite ?_ ?_)
   | (with_reducible refine LeO.bind ?_ (fun _ => ?_))
   | exact octavoref07_Last.mono _ _ _
   | exact octavoref07_first.mono _ _ _
   | exact LeO.none _
   | refine LeO.ite ?_ ?_
   | refine LeO.bind ?_ (fun _ => ?_)
set_option maxHeartbeats 8000000 in
set_option maxRecDepth 100000 in
theorem octavoref07_Day.calls (k : Nat) (a0 : Int) (a1 : Int) (a2 : Int) (r1 : Int) (r2 : Bool) (w : World) (h : octavoref07_Day.f k a0 a1 a2 = some (r1, r2)) :
  Calls Tryz.prog 68 #[.int .i64 a0, .int .i64 a1, .int .i64 a2] w fun e w' => e = .returned (.tuple #[.int .i64 r1, .bool r2]) ∧ Drawn0 w w' := by
 have H : (if a0 < 1900 then (some (0, false)) else (if a0 > 9999 then (some (0, false)) else (if a2 < 1 then (some (0, false)) else ((octavoref07_Last.f k a0 a1).bind fun t183 => (if a2 > t183 then (some (0, false)) else ((octavoref07_first.f k a0 a1).bind fun t184 => (some (wrap64 (t184 + a2), true)))))))) = some (r1, r2) := h
 clear h
 by_cases c4 : a0 < 1900
 ·rw [if_pos c4] at H
  have c4b0 : decide (a0 < 1900) = true := decide_eq_true c4
  clear c4
  simp only [Option.some.injEq, Prod.mk.injEq] at H
  obtain ⟨rfl, rfl⟩ := H
  go_enter Tryz.func68, Tryz.ntmps68
  go_wp2
  go_ret2
  exact ⟨zrl, zdn⟩
 ·rw [if_neg c4] at H
  have c4b0 : decide (a0 < 1900) = false := decide_eq_false c4
  clear c4
  by_cases c5 : a0 > 9999
  ·rw [if_pos c5] at H
   have c5b0 : decide (9999 < a0) = true := decide_eq_true c5
   clear c5
   simp only [Option.some.injEq, Prod.mk.injEq] at H
   obtain ⟨rfl, rfl⟩ := H
   go_enter Tryz.func68, Tryz.ntmps68
   go_wp2
   go_ret2
   exact ⟨zrl, zdn⟩
  ·rw [if_neg c5] at H
   have c5b0 : decide (9999 < a0) = false := decide_eq_false c5
   clear c5
   by_cases c6 : a2 < 1
   ·rw [if_pos c6] at H
    have c6b0 : decide (a2 < 1) = true := decide_eq_true c6
    clear c6
    simp only [Option.some.injEq, Prod.mk.injEq] at H
    obtain ⟨rfl, rfl⟩ := H
    go_enter Tryz.func68, Tryz.ntmps68
    go_wp2
    go_ret2
    exact ⟨zrl, zdn⟩
   ·rw [if_neg c6] at H
    have c6b0 : decide (a2 < 1) = false := decide_eq_false c6
    clear c6
    replace H := Option.bind_eq_some_iff.mp H
    obtain ⟨t183, A70, H⟩ := H
    replace H : (if a2 > t183 then (some (0, false)) else ((octavoref07_first.f k a0 a1).bind fun t184 => (some (wrap64 (t184 + a2), true)))) = some (r1, r2) := H
    have A7 := Aside0.mk A70
    clear A70
    by_cases c8 : a2 > t183
    ·rw [if_pos c8] at H
     have c8b0 : decide (t183 < a2) = true := decide_eq_true c8
     clear c8
     simp only [Option.some.injEq, Prod.mk.injEq] at H
     obtain ⟨rfl, rfl⟩ := H
     go_enter Tryz.func68, Tryz.ntmps68
     go_wp2_with (first | (go_at_call 109; (with_reducible refine (octavoref07_Last.calls k a0 a1 t183 _ A7.out).mono ?_); rintro e w' ⟨rfl, ⟨nd, rfl⟩⟩))
     go_ret2
     exact ⟨zrl, zdn⟩
    ·rw [if_neg c8] at H
     have c8b0 : decide (t183 < a2) = false := decide_eq_false c8
     clear c8
     replace H := Option.bind_eq_some_iff.mp H
     obtain ⟨t184, A90, H⟩ := H
     replace H : (some (wrap64 (t184 + a2), true)) = some (r1, r2) := H
     have A9 := Aside0.mk A90
     clear A90
     simp only [Option.some.injEq, Prod.mk.injEq] at H
     obtain ⟨rfl, rfl⟩ := H
     go_enter Tryz.func68, Tryz.ntmps68
     go_wp2_with (first | (go_at_call 109; (with_reducible refine (octavoref07_Last.calls k a0 a1 t183 _ A7.out).mono ?_); rintro e w' ⟨rfl, ⟨nd, rfl⟩⟩) | ((with_reducible refine gate_callee (f := 108) rfl ?_); refine goesL_ (some 27) rfl rfl Tryz.func108 (by kernel_rfl) rfl #[.int .i64 a0, .int .i64 a1] rfl (by (try simp only [List.map_toArray, List.map_cons, List.map_nil]); first | done | rfl | (simp only [List.length_drop, List.length_take]; rfl)) ?_; (with_reducible refine (octavoref07_first.calls k a0 a1 t184 _ A9.out).mono ?_); rintro e w' ⟨rfl, ⟨nd, rfl⟩⟩; refine ⟨_, rfl, ?_⟩))
     go_ret2
     exact ⟨zrl, zdn⟩
end Go.Proofs.YtllceoncpgebpaaGreatDoor.P
