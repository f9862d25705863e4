-- Written by a program of this session (wip/tools/xprint.py), out of the seat's translation. Not trusted: Lean checks it.
import Derived.Test.YtnpcmgajplikbaaGreatDoorPx0
import Derived.Test.YtnpcmgajplikbaaGreatDoorPx1
import Derived.Test.YtnpcmgajplikbaaGreatDoorPx2
namespace Go.Proofs.YtnpcmgajplikbaaGreatDoor.P
open Go.RowKit Go.Proofs.YtnpcmgajplikbaaGreatDoorW.PrintWords Go.Proofs.YtnpcmgajplikbaaGreatDoorW.PrintLast Go.Proofs.YtnpcmgajplikbaaGreatDoorW.PrintMore
attribute [local go_sem] max2_int min2_int max_two min_two max_three min_three max_four min_four X.binOp_str_gtr X.binOp_str_leq   -- for this text's walks alone
set_option linter.unusedVariables false
set_option linter.unusedSimpArgs false

/-! ### strings_TrimRight: function 137 -/
mutual
def strings_TrimRight.j0 : Nat → ByteArray → ByteArray → Bool → Option (ByteArray)
  | 0, _, _, _ => none
  | k + 1, x0, x1, x12 => if x12 = true then (some x0) else (if (x1.size : Int) = 1 then (if 0 < (x1.size : Int) then (strings_TrimRight.j1 k x0 x1 (decide ((bt x1 0) < 128))) else (none)) else (strings_TrimRight.j1 k x0 x1 false))
def strings_TrimRight.j1 : Nat → ByteArray → ByteArray → Bool → Option (ByteArray)
  | 0, _, _, _ => none
  | k + 1, x0, x1, x21 => if x21 = true then (if 0 < (x1.size : Int) then ((strings_trimRightByte.f k x0 (bt x1 0)).bind fun t149 => (some t149)) else (none)) else (none)
end
def strings_TrimRight.f (k : Nat) (a0 : ByteArray) (a1 : ByteArray) : Option (ByteArray) := if a0.toList = ([] : List UInt8) then (strings_TrimRight.j0 k a0 a1 true) else (strings_TrimRight.j0 k a0 a1 (a1.toList == ([] : List UInt8)))
theorem strings_TrimRight.mono_l : ∀ k, (∀ y0 y1 y2, LeO (strings_TrimRight.j0 k y0 y1 y2) (strings_TrimRight.j0 (k + 1) y0 y1 y2)) ∧ (∀ y0 y1 y2, LeO (strings_TrimRight.j1 k y0 y1 y2) (strings_TrimRight.j1 (k + 1) y0 y1 y2))
  | 0 => ⟨fun _ _ _ r h => by simp [strings_TrimRight.j0] at h, fun _ _ _ r h => by simp [strings_TrimRight.j1] at h⟩
  | k + 1 => by
    obtain ⟨ih0, ih1⟩ := strings_TrimRight.mono_l k
    refine ⟨?_, ?_⟩
    · intro y0 y1 y2
      unfold strings_TrimRight.j0
      repeat' first
      | (with_reducible exact ih0 _ _ _)
      | (with_reducible exact ih1 _ _ _)
      | (with_reducible exact strings_trimRightByte.mono _ _ _)
      | (with_reducible exact LeO.refl _)
      | (with_reducible exact LeO.none _)
      | (with_reducible refine LeO.ite ?_ ?_)
      | (with_reducible refine LeO.bind ?_ (fun _ => ?_))
      | exact ih0 _ _ _
      | exact ih1 _ _ _
      | exact strings_trimRightByte.mono _ _ _
      | exact LeO.none _
      | refine LeO.ite ?_ ?_
      | refine LeO.bind ?_ (fun _ => ?_)
    · intro y0 y1 y2
      unfold strings_TrimRight.j1
      repeat' first
      | (with_reducible exact ih0 _ _ _)
      | (with_reducible exact ih1 _ _ _)
      | (with_reducible exact strings_trimRightByte.mono _ _ _)
      | (with_reducible exact LeO.refl _)
      | (with_reducible exact LeO.none _)
      | (with_reducible refine LeO.ite ?_ ?_)
      | (with_reducible refine LeO.bind ?_ (fun _ => ?_))
      | exact ih0 _ _ _
      | exact ih1 _ _ _
      | exact strings_trimRightByte.mono _ _ _
      | exact LeO.none _
      | refine LeO.ite ?_ ?_
      | refine LeO.bind ?_ (fun _ => ?_)
theorem strings_TrimRight.mono : ∀ a0 a1 k, LeO (strings_TrimRight.f k a0 a1) (strings_TrimRight.f (k + 1) a0 a1) := by
  intro a0 a1 k
  obtain ⟨ih0, ih1⟩ := strings_TrimRight.mono_l k
  unfold strings_TrimRight.f
  repeat' first
      | (with_reducible exact ih0 _ _ _)
      | (with_reducible exact ih1 _ _ _)
      | (with_reducible exact strings_trimRightByte.mono _ _ _)
      | (with_reducible exact LeO.refl _)
      | (with_reducible exact LeO.none _)
      | (with_reducible refine LeO.ite ?_ ?_)
      | (with_reducible refine LeO.bind ?_ (fun _ => ?_))
      | exact ih0 _ _ _
      | exact ih1 _ _ _
      | exact strings_trimRightByte.mono _ _ _
      | exact LeO.none _
      | refine LeO.ite ?_ ?_
      | refine LeO.bind ?_ (fun _ => ?_)
set_option maxHeartbeats 8000000 in
set_option maxRecDepth 100000 in
theorem strings_TrimRight.calls (k : Nat) (a0 : ByteArray) (a1 : ByteArray) (r : ByteArray) (w : World) (h : strings_TrimRight.f k a0 a1 = some r) :
    Calls Tryz.prog 137 #[.string a0, .string a1] w fun e w' => e = .returned (.string r) ∧ Below w.heap.size w w' := by
  have HB := Aside0.mk (Below.refl w.heap.size w)
  have H : (if a0.toList = ([] : List UInt8) then (strings_TrimRight.j0 k a0 a1 true) else (strings_TrimRight.j0 k a0 a1 (a1.toList == ([] : List UInt8)))) = some r := h
  clear h
  have HC3 := Aside0.mk H
  clear H
  go_enter Tryz.func137, Tryz.ntmps137
  go_upto_region 1 with (fail)
  go_cut [12] (fun v12 wc => ∃ (kq : Nat) (x12_2 : Bool), v12 = .bool x12_2 ∧ Aside0 (strings_TrimRight.j0 kq a0 a1 x12_2 = some r) ∧ Aside0 (kq ≤ k) ∧ Aside0 (Below w.heap.size w wc))
  case first =>
    have H := HC3.out
    clear HC3
    by_cases c4 : a0.toList = ([] : List UInt8)
    · rw [if_pos c4] at H
      have c4b0 : (a0.toList == ([] : List UInt8)) = true := beq_iff_eq.mpr c4
      have c4b1 : (a0.toList != ([] : List UInt8)) = false := bne_eq_false_iff_eq.mpr c4
      clear c4
      (first | rw [c4b0] | (simp only [i64_w, i32_w]; rw [c4b0]) | skip)
      have H' := Aside0.mk H
      clear H
      go_wp2
      go_meet
      case rel => exact ⟨_, (true), (by first | rfl | (simp; done) | (simp [*]; done) | (simp [Go.Proofs.YtnpcmgajplikbaaGreatDoor.X.bne_nil]; done)), H', ⟨by first | omega | exact Nat.le_refl _⟩, ⟨by repeat (first | (with_reducible first | exact HB.out | apply below_alloc | apply pw_below_drewN | apply below_drew1) | exact HB.out)⟩⟩
    · rw [if_neg c4] at H
      have c4b0 : (a0.toList == ([] : List UInt8)) = false := beq_eq_false_iff_ne.mpr c4
      have c4b1 : (a0.toList != ([] : List UInt8)) = true := bne_iff_ne.mpr c4
      (first | rw [c4b0] | (simp only [i64_w, i32_w]; rw [c4b0]) | skip)
      have H' := Aside0.mk H
      clear H
      go_wp2
      go_meet
      case rel => exact ⟨_, ((a1.toList == ([] : List UInt8))), (by first | rfl | (simp; done) | (simp [*]; done) | (simp [Go.Proofs.YtnpcmgajplikbaaGreatDoor.X.bne_nil]; done)), H', ⟨by first | omega | exact Nat.le_refl _⟩, ⟨by repeat (first | (with_reducible first | exact HB.out | apply below_alloc | apply pw_below_drewN | apply below_drew1) | exact HB.out)⟩⟩
  case rest =>
    clear HC3
    try clear c1
    try clear p2
    try clear c4
    try clear c4b0
    try clear c4b1
    obtain ⟨kq, x12_2, rfl, HA, HJ2, HB⟩ := hcut
    cases kq with
    | zero => exact absurd HA.out (by simp [strings_TrimRight.j0])
    | succ kj2 =>
      have H := HA.out
      clear HA
      simp only [strings_TrimRight.j0] at H
      by_cases c5 : x12_2 = true
      · subst c5
        have H1 : (some a0) = some r := by rw [if_pos rfl] at H; exact H
        clear H
        have H := H1
        clear H1
        obtain rfl := Option.some.inj H
        go_wp2
        go_ret
        exact ⟨by first | rfl | (simp [errW_none, errW_some] <;> rfl) | (simp [*, errW_none, errW_some] <;> rfl), by repeat (first | (with_reducible first | exact HB.out | apply below_alloc | apply pw_below_drewN | apply below_drew1) | exact HB.out)⟩
      · replace c5 := Bool.eq_false_iff.mpr c5
        subst c5
        have H1 : (if (a1.size : Int) = 1 then (if 0 < (a1.size : Int) then (strings_TrimRight.j1 kj2 a0 a1 (decide ((bt a1 0) < 128))) else (none)) else (strings_TrimRight.j1 kj2 a0 a1 false)) = some r := by rw [if_neg (show ¬ (false = true) by decide)] at H; exact H
        clear H
        have H := H1
        clear H1
        have HC6 := Aside0.mk H
        clear H
        go_upto_region 3 with (fail)
        go_cut [21] (fun v21 wc => ∃ (kq : Nat) (x21_5 : Bool), v21 = .bool x21_5 ∧ Aside0 (strings_TrimRight.j1 kq a0 a1 x21_5 = some r) ∧ Aside0 (kq ≤ kj2) ∧ Aside0 (Below w.heap.size w wc))
        case first =>
          have H := HC6.out
          clear HC6
          by_cases c7 : (a1.size : Int) = 1
          · rw [if_pos c7] at H
            have c7b0 : ((a1.size : Int) == 1) = true := beq_iff_eq.mpr c7
            have c7b1 : ((a1.size : Int) != 1) = false := bne_eq_false_iff_eq.mpr c7
            clear c7
            (first | rw [c7b0] | (simp only [i64_w, i32_w]; rw [c7b0]) | skip)
            by_cases c8 : 0 < (a1.size : Int)
            · rw [if_pos c8] at H
              have c8b0 : decide (0 < (a1.size : Int)) = true := decide_eq_true c8
              have c8b1 : decide (0 < a1.size) = true := decide_eq_true (by omega)
              clear c8
              have H' := Aside0.mk H
              clear H
              have p9 : 0 ≤ (0 : Int) := (by omega)
              have q9 : 0 < a1.size := (by have : (0 : Int) < (a1.size : Int) := of_decide_eq_true (by first | (with_reducible assumption) | assumption); omega)
              have hx9 : ∀ h : 0 < a1.size, ((a1[0]'h).toNat : Int) = bt a1 0 := bt_at a1 0
              clear p9
              have qi9 : (0 < (a1.size : Int)) = True := eq_true (of_decide_eq_true (by first | (with_reducible assumption) | assumption))
              replace q9 := eq_true q9
              go_wp2
              go_meet
              case rel => exact ⟨_, (decide ((bt a1 0) < 128)), (by first | rfl | (simp; done) | (simp [*]; done) | (simp [Go.Proofs.YtnpcmgajplikbaaGreatDoor.X.bne_nil]; done)), H', ⟨by have := HJ2.out; first | omega | exact Nat.le_refl _⟩, ⟨by repeat (first | (with_reducible first | exact HB.out | apply below_alloc | apply pw_below_drewN | apply below_drew1) | exact HB.out)⟩⟩
            · rw [if_neg c8] at H
              exact absurd H (by simp)
          · rw [if_neg c7] at H
            have c7b0 : ((a1.size : Int) == 1) = false := beq_eq_false_iff_ne.mpr c7
            have c7b1 : ((a1.size : Int) != 1) = true := bne_iff_ne.mpr c7
            (first | rw [c7b0] | (simp only [i64_w, i32_w]; rw [c7b0]) | skip)
            have H' := Aside0.mk H
            clear H
            go_wp2
            go_meet
            case rel => exact ⟨_, (false), (by first | rfl | (simp; done) | (simp [*]; done) | (simp [Go.Proofs.YtnpcmgajplikbaaGreatDoor.X.bne_nil]; done)), H', ⟨by have := HJ2.out; first | omega | exact Nat.le_refl _⟩, ⟨by repeat (first | (with_reducible first | exact HB.out | apply below_alloc | apply pw_below_drewN | apply below_drew1) | exact HB.out)⟩⟩
        case rest =>
          clear HC6
          try clear c1
          try clear p2
          try clear c4
          try clear c4b0
          try clear c4b1
          try clear c5
          try clear c7
          try clear c7b0
          try clear c7b1
          try clear c8
          try clear c8b0
          try clear c8b1
          try clear p9
          try clear q9
          try clear hx9
          try clear qi9
          try clear p2
          try clear p9
          try clear q9
          obtain ⟨kq, x21_5, rfl, HA, HJ5, HB⟩ := hcut
          cases kq with
          | zero => exact absurd HA.out (by simp [strings_TrimRight.j1])
          | succ kj5 =>
            have H := HA.out
            clear HA
            simp only [strings_TrimRight.j1] at H
            by_cases c10 : x21_5 = true
            · subst c10
              have H1 : (if 0 < (a1.size : Int) then ((strings_trimRightByte.f kj5 a0 (bt a1 0)).bind fun t149 => (some t149)) else (none)) = some r := by rw [if_pos rfl] at H; exact H
              clear H
              have H := H1
              clear H1
              by_cases c11 : 0 < (a1.size : Int)
              · rw [if_pos c11] at H
                have c11b0 : decide (0 < (a1.size : Int)) = true := decide_eq_true c11
                have c11b1 : decide (0 < a1.size) = true := decide_eq_true (by omega)
                clear c11
                replace H := Option.bind_eq_some_iff.mp H
                obtain ⟨t149, A130, H⟩ := H
                replace H : (some t149) = some r := H
                have A13 := Aside0.mk A130
                clear A130
                obtain rfl := Option.some.inj H
                have p12 : 0 ≤ (0 : Int) := (by omega)
                have q12 : 0 < a1.size := (by have : (0 : Int) < (a1.size : Int) := of_decide_eq_true (by first | (with_reducible assumption) | assumption); omega)
                have hx12 : ∀ h : 0 < a1.size, ((a1[0]'h).toNat : Int) = bt a1 0 := bt_at a1 0
                clear p12
                have qi12 : (0 < (a1.size : Int)) = True := eq_true (of_decide_eq_true (by first | (with_reducible assumption) | assumption))
                replace q12 := eq_true q12
                go_wp2_with (first | ((with_reducible refine gate_callee (f := 141) rfl ?_); refine goesL_ (some 25) rfl rfl Tryz.func141 (by kernel_rfl) rfl #[.string a0, .int .u8 (bt a1 0)] rfl (by (try simp only [List.map_toArray, List.map_cons, List.map_nil]); first | done | rfl | (simp only [List.length_drop, List.length_take]; rfl)) ?_; (with_reducible refine (strings_trimRightByte.calls kj5 a0 (bt a1 0) t149 _ A13.out).mono ?_); rintro e w' ⟨rfl, ⟨nd, rfl⟩⟩; refine ⟨_, rfl, ?_⟩))
                go_ret
                exact ⟨by first | rfl | (simp [errW_none, errW_some] <;> rfl) | (simp [*, errW_none, errW_some] <;> rfl), by repeat (first | (with_reducible first | exact HB.out | apply below_alloc | apply pw_below_drewN | apply below_drew1) | exact HB.out)⟩
              · rw [if_neg c11] at H
                exact absurd H (by simp)
            · replace c10 := Bool.eq_false_iff.mpr c10
              subst c10
              have H1 : (none) = some r := by rw [if_neg (show ¬ (false = true) by decide)] at H; exact H
              clear H
              have H := H1
              clear H1
              exact absurd H (by simp)

/-! ### num_Print: function 129 -/
def num_Print.f (k : Nat) (a0 : Int) : Option (ByteArray) := (num_size.f a0).bind fun t150 => ((num_decimal.f k (IntKind.u64.wrap (Int.tdiv t150 10000))).bind fun t151 => (if (Int.tmod t150 10000) > 0 then ((num_decimal.f k (IntKind.u64.wrap ((Int.tmod t150 10000) + 10000))).bind fun t152 => (if 1 ≤ (t152.size : Int) then ((strings_TrimRight.f k (t152.extract 1 t152.size) (⟨#[48]⟩ : ByteArray)).bind fun t153 => (if 1 + t153.size ≤ 9223372036854775807 then (if t151.size + ((⟨#[46]⟩ : ByteArray) ++ t153).size ≤ 9223372036854775807 then (if a0 < 0 then (if 1 + (t151 ++ ((⟨#[46]⟩ : ByteArray) ++ t153)).size ≤ 9223372036854775807 then (some ((⟨#[45]⟩ : ByteArray) ++ (t151 ++ ((⟨#[46]⟩ : ByteArray) ++ t153)))) else (none)) else (some (t151 ++ ((⟨#[46]⟩ : ByteArray) ++ t153)))) else (none)) else (none))) else (none))) else (if a0 < 0 then (if 1 + t151.size ≤ 9223372036854775807 then (some ((⟨#[45]⟩ : ByteArray) ++ t151)) else (none)) else (some t151))))
theorem num_Print.mono : ∀ a0 k, LeO (num_Print.f k a0) (num_Print.f (k + 1) a0) := by
  intro a0 k
  unfold num_Print.f
  repeat' first
      | (with_reducible exact num_decimal.mono _ _)
      | (with_reducible exact strings_TrimRight.mono _ _ _)
      | (with_reducible exact LeO.refl _)
      | (with_reducible exact LeO.none _)
      | (with_reducible refine LeO.ite ?_ ?_)
      | (with_reducible refine LeO.bind ?_ (fun _ => ?_))
      | exact num_decimal.mono _ _
      | exact strings_TrimRight.mono _ _ _
      | exact LeO.none _
      | refine LeO.ite ?_ ?_
      | refine LeO.bind ?_ (fun _ => ?_)
set_option maxHeartbeats 8000000 in
set_option maxRecDepth 100000 in
theorem num_Print.calls (k : Nat) (a0 : Int) (r : ByteArray) (w : World) (h : num_Print.f k a0 = some r) :
    Calls Tryz.prog 129 #[.int .i64 a0] w fun e w' => e = .returned (.string r) ∧ Below w.heap.size w w' := by
  have HB := Aside0.mk (Below.refl w.heap.size w)
  have H : ((num_size.f a0).bind fun t150 => ((num_decimal.f k (IntKind.u64.wrap (Int.tdiv t150 10000))).bind fun t151 => (if (Int.tmod t150 10000) > 0 then ((num_decimal.f k (IntKind.u64.wrap ((Int.tmod t150 10000) + 10000))).bind fun t152 => (if 1 ≤ (t152.size : Int) then ((strings_TrimRight.f k (t152.extract 1 t152.size) (⟨#[48]⟩ : ByteArray)).bind fun t153 => (if 1 + t153.size ≤ 9223372036854775807 then (if t151.size + ((⟨#[46]⟩ : ByteArray) ++ t153).size ≤ 9223372036854775807 then (if a0 < 0 then (if 1 + (t151 ++ ((⟨#[46]⟩ : ByteArray) ++ t153)).size ≤ 9223372036854775807 then (some ((⟨#[45]⟩ : ByteArray) ++ (t151 ++ ((⟨#[46]⟩ : ByteArray) ++ t153)))) else (none)) else (some (t151 ++ ((⟨#[46]⟩ : ByteArray) ++ t153)))) else (none)) else (none))) else (none))) else (if a0 < 0 then (if 1 + t151.size ≤ 9223372036854775807 then (some ((⟨#[45]⟩ : ByteArray) ++ t151)) else (none)) else (some t151))))) = some r := h
  clear h
  replace H := Option.bind_eq_some_iff.mp H
  obtain ⟨t150, A20, H⟩ := H
  replace H : ((num_decimal.f k (IntKind.u64.wrap (Int.tdiv t150 10000))).bind fun t151 => (if (Int.tmod t150 10000) > 0 then ((num_decimal.f k (IntKind.u64.wrap ((Int.tmod t150 10000) + 10000))).bind fun t152 => (if 1 ≤ (t152.size : Int) then ((strings_TrimRight.f k (t152.extract 1 t152.size) (⟨#[48]⟩ : ByteArray)).bind fun t153 => (if 1 + t153.size ≤ 9223372036854775807 then (if t151.size + ((⟨#[46]⟩ : ByteArray) ++ t153).size ≤ 9223372036854775807 then (if a0 < 0 then (if 1 + (t151 ++ ((⟨#[46]⟩ : ByteArray) ++ t153)).size ≤ 9223372036854775807 then (some ((⟨#[45]⟩ : ByteArray) ++ (t151 ++ ((⟨#[46]⟩ : ByteArray) ++ t153)))) else (none)) else (some (t151 ++ ((⟨#[46]⟩ : ByteArray) ++ t153)))) else (none)) else (none))) else (none))) else (if a0 < 0 then (if 1 + t151.size ≤ 9223372036854775807 then (some ((⟨#[45]⟩ : ByteArray) ++ t151)) else (none)) else (some t151)))) = some r := H
  have A2 := Aside0.mk A20
  clear A20
  replace H := Option.bind_eq_some_iff.mp H
  obtain ⟨t151, A30, H⟩ := H
  replace H : (if (Int.tmod t150 10000) > 0 then ((num_decimal.f k (IntKind.u64.wrap ((Int.tmod t150 10000) + 10000))).bind fun t152 => (if 1 ≤ (t152.size : Int) then ((strings_TrimRight.f k (t152.extract 1 t152.size) (⟨#[48]⟩ : ByteArray)).bind fun t153 => (if 1 + t153.size ≤ 9223372036854775807 then (if t151.size + ((⟨#[46]⟩ : ByteArray) ++ t153).size ≤ 9223372036854775807 then (if a0 < 0 then (if 1 + (t151 ++ ((⟨#[46]⟩ : ByteArray) ++ t153)).size ≤ 9223372036854775807 then (some ((⟨#[45]⟩ : ByteArray) ++ (t151 ++ ((⟨#[46]⟩ : ByteArray) ++ t153)))) else (none)) else (some (t151 ++ ((⟨#[46]⟩ : ByteArray) ++ t153)))) else (none)) else (none))) else (none))) else (if a0 < 0 then (if 1 + t151.size ≤ 9223372036854775807 then (some ((⟨#[45]⟩ : ByteArray) ++ t151)) else (none)) else (some t151))) = some r := H
  have A3 := Aside0.mk A30
  clear A30
  by_cases c4 : (Int.tmod t150 10000) > 0
  · rw [if_pos c4] at H
    have c4b0 : decide (0 < (Int.tmod t150 10000)) = true := decide_eq_true c4
    clear c4
    replace H := Option.bind_eq_some_iff.mp H
    obtain ⟨t152, A50, H⟩ := H
    replace H : (if 1 ≤ (t152.size : Int) then ((strings_TrimRight.f k (t152.extract 1 t152.size) (⟨#[48]⟩ : ByteArray)).bind fun t153 => (if 1 + t153.size ≤ 9223372036854775807 then (if t151.size + ((⟨#[46]⟩ : ByteArray) ++ t153).size ≤ 9223372036854775807 then (if a0 < 0 then (if 1 + (t151 ++ ((⟨#[46]⟩ : ByteArray) ++ t153)).size ≤ 9223372036854775807 then (some ((⟨#[45]⟩ : ByteArray) ++ (t151 ++ ((⟨#[46]⟩ : ByteArray) ++ t153)))) else (none)) else (some (t151 ++ ((⟨#[46]⟩ : ByteArray) ++ t153)))) else (none)) else (none))) else (none)) = some r := H
    have A5 := Aside0.mk A50
    clear A50
    by_cases c6 : 1 ≤ (t152.size : Int)
    · rw [if_pos c6] at H
      have c6b0 := eq_true c6
      have c6b1 : decide (1 ≤ (t152.size : Int)) = true := decide_eq_true c6
      clear c6
      replace H := Option.bind_eq_some_iff.mp H
      obtain ⟨t153, A70, H⟩ := H
      replace H : (if 1 + t153.size ≤ 9223372036854775807 then (if t151.size + ((⟨#[46]⟩ : ByteArray) ++ t153).size ≤ 9223372036854775807 then (if a0 < 0 then (if 1 + (t151 ++ ((⟨#[46]⟩ : ByteArray) ++ t153)).size ≤ 9223372036854775807 then (some ((⟨#[45]⟩ : ByteArray) ++ (t151 ++ ((⟨#[46]⟩ : ByteArray) ++ t153)))) else (none)) else (some (t151 ++ ((⟨#[46]⟩ : ByteArray) ++ t153)))) else (none)) else (none)) = some r := H
      have A7 := Aside0.mk A70
      clear A70
      by_cases c8 : 1 + t153.size ≤ 9223372036854775807
      · rw [if_pos c8] at H
        have c8b0 := eq_true c8
        have c8b1 : decide (1 + t153.size ≤ 9223372036854775807) = true := decide_eq_true c8
        try have c8b2 : (9223372036854775807 < 1 + t153.size) = False := eq_false (Nat.not_lt.2 c8)
        by_cases c9 : t151.size + ((⟨#[46]⟩ : ByteArray) ++ t153).size ≤ 9223372036854775807
        · rw [if_pos c9] at H
          have c9b0 := eq_true c9
          have c9b1 : decide (t151.size + ((⟨#[46]⟩ : ByteArray) ++ t153).size ≤ 9223372036854775807) = true := decide_eq_true c9
          try have c9b2 : (9223372036854775807 < t151.size + ((⟨#[46]⟩ : ByteArray) ++ t153).size) = False := eq_false (Nat.not_lt.2 c9)
          try (have c9b3 := c9; simp only [ByteArray.size_append, Nat.add_zero, Nat.zero_add, show (⟨#[46]⟩ : ByteArray).size = 1 from rfl] at c9b3; have c9b4 := eq_true c9b3; have c9b5 := eq_false (Nat.not_lt.2 c9b3))
          by_cases c10 : a0 < 0
          · rw [if_pos c10] at H
            have c10b0 : decide (a0 < 0) = true := decide_eq_true c10
            clear c10
            by_cases c11 : 1 + (t151 ++ ((⟨#[46]⟩ : ByteArray) ++ t153)).size ≤ 9223372036854775807
            · rw [if_pos c11] at H
              have c11b0 := eq_true c11
              have c11b1 : decide (1 + (t151 ++ ((⟨#[46]⟩ : ByteArray) ++ t153)).size ≤ 9223372036854775807) = true := decide_eq_true c11
              try have c11b2 : (9223372036854775807 < 1 + (t151 ++ ((⟨#[46]⟩ : ByteArray) ++ t153)).size) = False := eq_false (Nat.not_lt.2 c11)
              try (have c11b3 := c11; simp only [ByteArray.size_append, Nat.add_zero, Nat.zero_add, show (⟨#[46]⟩ : ByteArray).size = 1 from rfl] at c11b3; have c11b4 := eq_true c11b3; have c11b5 := eq_false (Nat.not_lt.2 c11b3))
              obtain rfl := Option.some.inj H
              go_enter Tryz.func129, Tryz.ntmps129
              go_wp2_with (first | ((with_reducible refine gate_callee (f := 79) rfl ?_); refine goesL_ (some 7) rfl rfl Tryz.func79 (by kernel_rfl) rfl #[.int .i64 a0] rfl (by (try simp only [List.map_toArray, List.map_cons, List.map_nil]); first | done | rfl | (simp only [List.length_drop, List.length_take]; rfl)) ?_; (with_reducible refine (num_size.calls a0 t150 _ A2.out).mono ?_); rintro e w' ⟨rfl, ⟨nd, rfl⟩⟩; refine ⟨_, rfl, ?_⟩) | ((with_reducible refine gate_callee (f := 136) rfl ?_); refine goesL_ (some 10) rfl rfl Tryz.func136 (by kernel_rfl) rfl #[.int .u64 (IntKind.u64.wrap (Int.tdiv t150 10000))] rfl (by (try simp only [List.map_toArray, List.map_cons, List.map_nil]); first | done | rfl | (simp only [List.length_drop, List.length_take]; rfl)) ?_; (with_reducible refine (num_decimal.calls k (IntKind.u64.wrap (Int.tdiv t150 10000)) t151 _ A3.out).mono ?_); rintro e w12 ⟨rfl, hb⟩; refine ⟨_, rfl, ?_⟩; have n0_ := Aside0.mk (below_step (by repeat (first | (with_reducible first | exact HB.out | apply below_alloc | apply pw_below_drewN | apply below_drew1) | exact HB.out)) hb); clear HB; have HB := n0_; clear n0_; (try clear hb); (try clear hb2); (try clear hk); (try clear hi)) | ((with_reducible refine gate_callee (f := 136) rfl ?_); refine goesL_ (some 18) rfl rfl Tryz.func136 (by kernel_rfl) rfl #[.int .u64 (IntKind.u64.wrap ((Int.tmod t150 10000) + 10000))] rfl (by (try simp only [List.map_toArray, List.map_cons, List.map_nil]); first | done | rfl | (simp only [List.length_drop, List.length_take]; rfl)) ?_; (with_reducible refine (num_decimal.calls k (IntKind.u64.wrap ((Int.tmod t150 10000) + 10000)) t152 _ A5.out).mono ?_); rintro e w13 ⟨rfl, hb⟩; refine ⟨_, rfl, ?_⟩; have n0_ := Aside0.mk (below_step (by repeat (first | (with_reducible first | exact HB.out | apply below_alloc | apply pw_below_drewN | apply below_drew1) | exact HB.out)) hb); clear HB; have HB := n0_; clear n0_; (try clear hb); (try clear hb2); (try clear hk); (try clear hi)) | ((with_reducible refine gate_callee (f := 137) rfl ?_); refine goesL_ (some 20) rfl rfl Tryz.func137 (by kernel_rfl) rfl #[.string (t152.extract 1 t152.size), .string (⟨#[48]⟩ : ByteArray)] rfl (by (try simp only [List.map_toArray, List.map_cons, List.map_nil]); first | done | rfl | (simp only [List.length_drop, List.length_take]; rfl)) ?_; (with_reducible refine (strings_TrimRight.calls k (t152.extract 1 t152.size) (⟨#[48]⟩ : ByteArray) t153 _ A7.out).mono ?_); rintro e w14 ⟨rfl, hb⟩; refine ⟨_, rfl, ?_⟩; have n0_ := Aside0.mk (below_step (by repeat (first | (with_reducible first | exact HB.out | apply below_alloc | apply pw_below_drewN | apply below_drew1) | exact HB.out)) hb); clear HB; have HB := n0_; clear n0_; (try clear hb); (try clear hb2); (try clear hk); (try clear hi)))
              go_ret
              exact ⟨by first | rfl | (simp [errW_none, errW_some] <;> rfl) | (simp [*, errW_none, errW_some] <;> rfl), by repeat (first | (with_reducible first | exact HB.out | apply below_alloc | apply pw_below_drewN | apply below_drew1) | exact HB.out)⟩
            · rw [if_neg c11] at H
              exact absurd H (by simp)
          · rw [if_neg c10] at H
            have c10b0 : decide (a0 < 0) = false := decide_eq_false c10
            clear c10
            obtain rfl := Option.some.inj H
            go_enter Tryz.func129, Tryz.ntmps129
            go_wp2_with (first | ((with_reducible refine gate_callee (f := 79) rfl ?_); refine goesL_ (some 7) rfl rfl Tryz.func79 (by kernel_rfl) rfl #[.int .i64 a0] rfl (by (try simp only [List.map_toArray, List.map_cons, List.map_nil]); first | done | rfl | (simp only [List.length_drop, List.length_take]; rfl)) ?_; (with_reducible refine (num_size.calls a0 t150 _ A2.out).mono ?_); rintro e w' ⟨rfl, ⟨nd, rfl⟩⟩; refine ⟨_, rfl, ?_⟩) | ((with_reducible refine gate_callee (f := 136) rfl ?_); refine goesL_ (some 10) rfl rfl Tryz.func136 (by kernel_rfl) rfl #[.int .u64 (IntKind.u64.wrap (Int.tdiv t150 10000))] rfl (by (try simp only [List.map_toArray, List.map_cons, List.map_nil]); first | done | rfl | (simp only [List.length_drop, List.length_take]; rfl)) ?_; (with_reducible refine (num_decimal.calls k (IntKind.u64.wrap (Int.tdiv t150 10000)) t151 _ A3.out).mono ?_); rintro e w15 ⟨rfl, hb⟩; refine ⟨_, rfl, ?_⟩; have n0_ := Aside0.mk (below_step (by repeat (first | (with_reducible first | exact HB.out | apply below_alloc | apply pw_below_drewN | apply below_drew1) | exact HB.out)) hb); clear HB; have HB := n0_; clear n0_; (try clear hb); (try clear hb2); (try clear hk); (try clear hi)) | ((with_reducible refine gate_callee (f := 136) rfl ?_); refine goesL_ (some 18) rfl rfl Tryz.func136 (by kernel_rfl) rfl #[.int .u64 (IntKind.u64.wrap ((Int.tmod t150 10000) + 10000))] rfl (by (try simp only [List.map_toArray, List.map_cons, List.map_nil]); first | done | rfl | (simp only [List.length_drop, List.length_take]; rfl)) ?_; (with_reducible refine (num_decimal.calls k (IntKind.u64.wrap ((Int.tmod t150 10000) + 10000)) t152 _ A5.out).mono ?_); rintro e w16 ⟨rfl, hb⟩; refine ⟨_, rfl, ?_⟩; have n0_ := Aside0.mk (below_step (by repeat (first | (with_reducible first | exact HB.out | apply below_alloc | apply pw_below_drewN | apply below_drew1) | exact HB.out)) hb); clear HB; have HB := n0_; clear n0_; (try clear hb); (try clear hb2); (try clear hk); (try clear hi)) | ((with_reducible refine gate_callee (f := 137) rfl ?_); refine goesL_ (some 20) rfl rfl Tryz.func137 (by kernel_rfl) rfl #[.string (t152.extract 1 t152.size), .string (⟨#[48]⟩ : ByteArray)] rfl (by (try simp only [List.map_toArray, List.map_cons, List.map_nil]); first | done | rfl | (simp only [List.length_drop, List.length_take]; rfl)) ?_; (with_reducible refine (strings_TrimRight.calls k (t152.extract 1 t152.size) (⟨#[48]⟩ : ByteArray) t153 _ A7.out).mono ?_); rintro e w17 ⟨rfl, hb⟩; refine ⟨_, rfl, ?_⟩; have n0_ := Aside0.mk (below_step (by repeat (first | (with_reducible first | exact HB.out | apply below_alloc | apply pw_below_drewN | apply below_drew1) | exact HB.out)) hb); clear HB; have HB := n0_; clear n0_; (try clear hb); (try clear hb2); (try clear hk); (try clear hi)))
            go_ret
            exact ⟨by first | rfl | (simp [errW_none, errW_some] <;> rfl) | (simp [*, errW_none, errW_some] <;> rfl), by repeat (first | (with_reducible first | exact HB.out | apply below_alloc | apply pw_below_drewN | apply below_drew1) | exact HB.out)⟩
        · rw [if_neg c9] at H
          exact absurd H (by simp)
      · rw [if_neg c8] at H
        exact absurd H (by simp)
    · rw [if_neg c6] at H
      exact absurd H (by simp)
  · rw [if_neg c4] at H
    have c4b0 : decide (0 < (Int.tmod t150 10000)) = false := decide_eq_false c4
    clear c4
    by_cases c18 : a0 < 0
    · rw [if_pos c18] at H
      have c18b0 : decide (a0 < 0) = true := decide_eq_true c18
      clear c18
      by_cases c19 : 1 + t151.size ≤ 9223372036854775807
      · rw [if_pos c19] at H
        have c19b0 := eq_true c19
        have c19b1 : decide (1 + t151.size ≤ 9223372036854775807) = true := decide_eq_true c19
        try have c19b2 : (9223372036854775807 < 1 + t151.size) = False := eq_false (Nat.not_lt.2 c19)
        obtain rfl := Option.some.inj H
        go_enter Tryz.func129, Tryz.ntmps129
        go_wp2_with (first | ((with_reducible refine gate_callee (f := 79) rfl ?_); refine goesL_ (some 7) rfl rfl Tryz.func79 (by kernel_rfl) rfl #[.int .i64 a0] rfl (by (try simp only [List.map_toArray, List.map_cons, List.map_nil]); first | done | rfl | (simp only [List.length_drop, List.length_take]; rfl)) ?_; (with_reducible refine (num_size.calls a0 t150 _ A2.out).mono ?_); rintro e w' ⟨rfl, ⟨nd, rfl⟩⟩; refine ⟨_, rfl, ?_⟩) | ((with_reducible refine gate_callee (f := 136) rfl ?_); refine goesL_ (some 10) rfl rfl Tryz.func136 (by kernel_rfl) rfl #[.int .u64 (IntKind.u64.wrap (Int.tdiv t150 10000))] rfl (by (try simp only [List.map_toArray, List.map_cons, List.map_nil]); first | done | rfl | (simp only [List.length_drop, List.length_take]; rfl)) ?_; (with_reducible refine (num_decimal.calls k (IntKind.u64.wrap (Int.tdiv t150 10000)) t151 _ A3.out).mono ?_); rintro e w20 ⟨rfl, hb⟩; refine ⟨_, rfl, ?_⟩; have n0_ := Aside0.mk (below_step (by repeat (first | (with_reducible first | exact HB.out | apply below_alloc | apply pw_below_drewN | apply below_drew1) | exact HB.out)) hb); clear HB; have HB := n0_; clear n0_; (try clear hb); (try clear hb2); (try clear hk); (try clear hi)))
        go_ret
        exact ⟨by first | rfl | (simp [errW_none, errW_some] <;> rfl) | (simp [*, errW_none, errW_some] <;> rfl), by repeat (first | (with_reducible first | exact HB.out | apply below_alloc | apply pw_below_drewN | apply below_drew1) | exact HB.out)⟩
      · rw [if_neg c19] at H
        exact absurd H (by simp)
    · rw [if_neg c18] at H
      have c18b0 : decide (a0 < 0) = false := decide_eq_false c18
      clear c18
      obtain rfl := Option.some.inj H
      go_enter Tryz.func129, Tryz.ntmps129
      go_wp2_with (first | ((with_reducible refine gate_callee (f := 79) rfl ?_); refine goesL_ (some 7) rfl rfl Tryz.func79 (by kernel_rfl) rfl #[.int .i64 a0] rfl (by (try simp only [List.map_toArray, List.map_cons, List.map_nil]); first | done | rfl | (simp only [List.length_drop, List.length_take]; rfl)) ?_; (with_reducible refine (num_size.calls a0 t150 _ A2.out).mono ?_); rintro e w' ⟨rfl, ⟨nd, rfl⟩⟩; refine ⟨_, rfl, ?_⟩) | ((with_reducible refine gate_callee (f := 136) rfl ?_); refine goesL_ (some 10) rfl rfl Tryz.func136 (by kernel_rfl) rfl #[.int .u64 (IntKind.u64.wrap (Int.tdiv t150 10000))] rfl (by (try simp only [List.map_toArray, List.map_cons, List.map_nil]); first | done | rfl | (simp only [List.length_drop, List.length_take]; rfl)) ?_; (with_reducible refine (num_decimal.calls k (IntKind.u64.wrap (Int.tdiv t150 10000)) t151 _ A3.out).mono ?_); rintro e w21 ⟨rfl, hb⟩; refine ⟨_, rfl, ?_⟩; have n0_ := Aside0.mk (below_step (by repeat (first | (with_reducible first | exact HB.out | apply below_alloc | apply pw_below_drewN | apply below_drew1) | exact HB.out)) hb); clear HB; have HB := n0_; clear n0_; (try clear hb); (try clear hb2); (try clear hk); (try clear hi)))
      go_ret
      exact ⟨by first | rfl | (simp [errW_none, errW_some] <;> rfl) | (simp [*, errW_none, errW_some] <;> rfl), by repeat (first | (with_reducible first | exact HB.out | apply below_alloc | apply pw_below_drewN | apply below_drew1) | exact HB.out)⟩

/-! ### num_floor: function 75 -/
def num_floor.f (a0 : Int) (a1 : Int) : Option (Int) := if a1 = 0 then (none) else (if (Int.tmod a0 a1) = 0 then (some (wrap64 (Int.tdiv a0 a1))) else (if (Go.bits .xor .i64 (Int.tmod a0 a1) a1) < 0 then (some (wrap64 ((wrap64 (Int.tdiv a0 a1)) - 1))) else (some (wrap64 (Int.tdiv a0 a1)))))
set_option maxHeartbeats 8000000 in
set_option maxRecDepth 100000 in
theorem num_floor.calls (a0 : Int) (a1 : Int) (r : Int) (w : World) (h : num_floor.f a0 a1 = some r) :
    Calls Tryz.prog 75 #[.int .i64 a0, .int .i64 a1] w fun e w' => e = .returned (.int .i64 r) ∧ Drawn0 w w' := by
  have H : (if a1 = 0 then (none) else (if (Int.tmod a0 a1) = 0 then (some (wrap64 (Int.tdiv a0 a1))) else (if (Go.bits .xor .i64 (Int.tmod a0 a1) a1) < 0 then (some (wrap64 ((wrap64 (Int.tdiv a0 a1)) - 1))) else (some (wrap64 (Int.tdiv a0 a1)))))) = some r := h
  clear h
  by_cases c3 : a1 = 0
  · rw [if_pos c3] at H
    exact absurd H (by simp)
  · rw [if_neg c3] at H
    have c3b0 : (a1 == 0) = false := beq_eq_false_iff_ne.mpr c3
    have c3b1 : (a1 != 0) = true := bne_iff_ne.mpr c3
    by_cases c4 : (Int.tmod a0 a1) = 0
    · rw [if_pos c4] at H
      have c4b0 : ((Int.tmod a0 a1) == 0) = true := beq_iff_eq.mpr c4
      have c4b1 : ((Int.tmod a0 a1) != 0) = false := bne_eq_false_iff_eq.mpr c4
      clear c4
      obtain rfl := Option.some.inj H
      go_enter Tryz.func75, Tryz.ntmps75
      go_wp2
      repeat (go_quiet (fail); try go_wp2)
      go_ret
      exact ⟨by first | rfl | (simp; done) | (simp [*]; done) | (simp [Go.Proofs.YtnpcmgajplikbaaGreatDoor.X.bne_nil]; done), by repeat (first | exact Drawn0.refl _ | apply Drawn0.step)⟩
    · rw [if_neg c4] at H
      have c4b0 : ((Int.tmod a0 a1) == 0) = false := beq_eq_false_iff_ne.mpr c4
      have c4b1 : ((Int.tmod a0 a1) != 0) = true := bne_iff_ne.mpr c4
      by_cases c5 : (Go.bits .xor .i64 (Int.tmod a0 a1) a1) < 0
      · rw [if_pos c5] at H
        have c5b0 : decide ((Go.bits .xor .i64 (Int.tmod a0 a1) a1) < 0) = true := decide_eq_true c5
        clear c5
        obtain rfl := Option.some.inj H
        go_enter Tryz.func75, Tryz.ntmps75
        go_wp2
        repeat (go_quiet (fail); try go_wp2)
        go_ret
        exact ⟨by first | rfl | (simp; done) | (simp [*]; done) | (simp [Go.Proofs.YtnpcmgajplikbaaGreatDoor.X.bne_nil]; done), by repeat (first | exact Drawn0.refl _ | apply Drawn0.step)⟩
      · rw [if_neg c5] at H
        have c5b0 : decide ((Go.bits .xor .i64 (Int.tmod a0 a1) a1) < 0) = false := decide_eq_false c5
        clear c5
        obtain rfl := Option.some.inj H
        go_enter Tryz.func75, Tryz.ntmps75
        go_wp2
        repeat (go_quiet (fail); try go_wp2)
        go_ret
        exact ⟨by first | rfl | (simp; done) | (simp [*]; done) | (simp [Go.Proofs.YtnpcmgajplikbaaGreatDoor.X.bne_nil]; done), by repeat (first | exact Drawn0.refl _ | apply Drawn0.step)⟩

/-! ### num_Round: function 39 -/
mutual
def num_Round.j0 : Nat → Int → Int → Int → Bool → Option (Int × Bool)
  | 0, _, _, _, _ => none
  | k + 1, x0, x1, x2, x30 => if x30 = true then (some (0, false)) else (num_Round.l0 k x0 x2 1 (wrap64 (4 - x1)) 0)
def num_Round.l0 : Nat → Int → Int → Int → Int → Int → Option (Int × Bool)
  | 0, _, _, _, _, _ => none
  | k + 1, x0, x2, x8, x32, x33 => if x33 < x32 then (num_Round.l0 k x0 x2 (wrap64 (x8 * 10)) x32 (wrap64 (x33 + 1))) else ((num_floor.f x0 x8).bind fun t155 => (if (wrap64 (x0 - (wrap64 (t155 * x8)))) = 0 then (some (x0, true)) else (if (wrap64 (2 * (wrap64 (x0 - (wrap64 (t155 * x8)))))) > x8 then (if 0 ≤ x2 then (if x2 < 5 then (if (rdOf false ([true, decide (x0 > 0), decide (x0 < 0), true, false] : List Bool) x2) = true then ((num_told.f (wrap64 ((wrap64 (x0 - (wrap64 (x0 - (wrap64 (t155 * x8)))))) + x8))).bind fun bt156 => (some (bt156.1, bt156.2))) else ((num_told.f (wrap64 (x0 - (wrap64 (x0 - (wrap64 (t155 * x8))))))).bind fun bt158 => (some (bt158.1, bt158.2)))) else (none)) else (none)) else (if (wrap64 (2 * (wrap64 (x0 - (wrap64 (t155 * x8)))))) = x8 then (if 0 ≤ x2 then (if x2 < 5 then (if (rdOf false ([decide (x0 > 0), decide (x0 > 0), decide (x0 < 0), true, false] : List Bool) x2) = true then ((num_told.f (wrap64 ((wrap64 (x0 - (wrap64 (x0 - (wrap64 (t155 * x8)))))) + x8))).bind fun bt160 => (some (bt160.1, bt160.2))) else ((num_told.f (wrap64 (x0 - (wrap64 (x0 - (wrap64 (t155 * x8))))))).bind fun bt162 => (some (bt162.1, bt162.2)))) else (none)) else (none)) else (if 0 ≤ x2 then (if x2 < 5 then (if (rdOf false ([false, decide (x0 > 0), decide (x0 < 0), true, false] : List Bool) x2) = true then ((num_told.f (wrap64 ((wrap64 (x0 - (wrap64 (x0 - (wrap64 (t155 * x8)))))) + x8))).bind fun bt164 => (some (bt164.1, bt164.2))) else ((num_told.f (wrap64 (x0 - (wrap64 (x0 - (wrap64 (t155 * x8))))))).bind fun bt166 => (some (bt166.1, bt166.2)))) else (none)) else (none))))))
end
def num_Round.f (k : Nat) (a0 : Int) (a1 : Int) (a2 : Int) : Option (Int × Bool) := (num_Good.f a0).bind fun t154 => (if t154 = true then (if a1 < (-8) then (num_Round.j0 k a0 a1 a2 true) else (if a1 > 4 then (num_Round.j0 k a0 a1 a2 true) else (if a2 < 0 then (num_Round.j0 k a0 a1 a2 true) else (num_Round.j0 k a0 a1 a2 (decide (a2 > 4)))))) else (num_Round.j0 k a0 a1 a2 true))
theorem num_Round.mono_l : ∀ k, (∀ y0 y1 y2 y3, LeO (num_Round.j0 k y0 y1 y2 y3) (num_Round.j0 (k + 1) y0 y1 y2 y3)) ∧ (∀ y0 y1 y2 y3 y4, LeO (num_Round.l0 k y0 y1 y2 y3 y4) (num_Round.l0 (k + 1) y0 y1 y2 y3 y4))
  | 0 => ⟨fun _ _ _ _ r h => by simp [num_Round.j0] at h, fun _ _ _ _ _ r h => by simp [num_Round.l0] at h⟩
  | k + 1 => by
    obtain ⟨ih0, ih1⟩ := num_Round.mono_l k
    refine ⟨?_, ?_⟩
    · intro y0 y1 y2 y3
      unfold num_Round.j0
      repeat' first
      | (with_reducible exact ih0 _ _ _ _)
      | (with_reducible exact ih1 _ _ _ _ _)
      | (with_reducible exact LeO.refl _)
      | (with_reducible exact LeO.none _)
      | (with_reducible refine LeO.ite ?_ ?_)
      | (with_reducible refine LeO.bind ?_ (fun _ => ?_))
      | exact ih0 _ _ _ _
      | exact ih1 _ _ _ _ _
      | exact LeO.none _
      | refine LeO.ite ?_ ?_
      | refine LeO.bind ?_ (fun _ => ?_)
    · intro y0 y1 y2 y3 y4
      unfold num_Round.l0
      repeat' first
      | (with_reducible exact ih0 _ _ _ _)
      | (with_reducible exact ih1 _ _ _ _ _)
      | (with_reducible exact LeO.refl _)
      | (with_reducible exact LeO.none _)
      | (with_reducible refine LeO.ite ?_ ?_)
      | (with_reducible refine LeO.bind ?_ (fun _ => ?_))
      | exact ih0 _ _ _ _
      | exact ih1 _ _ _ _ _
      | exact LeO.none _
      | refine LeO.ite ?_ ?_
      | refine LeO.bind ?_ (fun _ => ?_)
theorem num_Round.mono : ∀ a0 a1 a2 k, LeO (num_Round.f k a0 a1 a2) (num_Round.f (k + 1) a0 a1 a2) := by
  intro a0 a1 a2 k
  obtain ⟨ih0, ih1⟩ := num_Round.mono_l k
  unfold num_Round.f
  repeat' first
      | (with_reducible exact ih0 _ _ _ _)
      | (with_reducible exact ih1 _ _ _ _ _)
      | (with_reducible exact LeO.refl _)
      | (with_reducible exact LeO.none _)
      | (with_reducible refine LeO.ite ?_ ?_)
      | (with_reducible refine LeO.bind ?_ (fun _ => ?_))
      | exact ih0 _ _ _ _
      | exact ih1 _ _ _ _ _
      | exact LeO.none _
      | refine LeO.ite ?_ ?_
      | refine LeO.bind ?_ (fun _ => ?_)
set_option maxHeartbeats 8000000 in
set_option maxRecDepth 100000 in
theorem num_Round.calls (k : Nat) (a0 : Int) (a1 : Int) (a2 : Int) (r1 : Int) (r2 : Bool) (w : World) (h : num_Round.f k a0 a1 a2 = some (r1, r2)) :
    Calls Tryz.prog 39 #[.int .i64 a0, .int .i64 a1, .int .i64 a2] w fun e w' => e = .returned (.tuple #[.int .i64 r1, .bool r2]) ∧ Drawn0 w w' := by
  have hu80 := Tryz.underlying80
  have H : ((num_Good.f a0).bind fun t154 => (if t154 = true then (if a1 < (-8) then (num_Round.j0 k a0 a1 a2 true) else (if a1 > 4 then (num_Round.j0 k a0 a1 a2 true) else (if a2 < 0 then (num_Round.j0 k a0 a1 a2 true) else (num_Round.j0 k a0 a1 a2 (decide (a2 > 4)))))) else (num_Round.j0 k a0 a1 a2 true))) = some (r1, r2) := h
  clear h
  have HC4 := Aside0.mk H
  clear H
  go_enter Tryz.func39, Tryz.ntmps39
  go_upto_region 1 with (fail)
  go_cut [30] (fun v30 wc => ∃ (kq : Nat) (x30_3 : Bool), v30 = .bool x30_3 ∧ Aside0 (num_Round.j0 kq a0 a1 a2 x30_3 = some (r1, r2)) ∧ Aside0 (kq ≤ k) ∧ Drawn0 w wc)
  case first =>
    have H := HC4.out
    clear HC4
    replace H := Option.bind_eq_some_iff.mp H
    obtain ⟨t154, A50, H⟩ := H
    replace H : (if t154 = true then (if a1 < (-8) then (num_Round.j0 k a0 a1 a2 true) else (if a1 > 4 then (num_Round.j0 k a0 a1 a2 true) else (if a2 < 0 then (num_Round.j0 k a0 a1 a2 true) else (num_Round.j0 k a0 a1 a2 (decide (a2 > 4)))))) else (num_Round.j0 k a0 a1 a2 true)) = some (r1, r2) := H
    have A5 := Aside0.mk A50
    clear A50
    by_cases c6 : t154 = true
    · subst c6
      have H1 : (if a1 < (-8) then (num_Round.j0 k a0 a1 a2 true) else (if a1 > 4 then (num_Round.j0 k a0 a1 a2 true) else (if a2 < 0 then (num_Round.j0 k a0 a1 a2 true) else (num_Round.j0 k a0 a1 a2 (decide (a2 > 4)))))) = some (r1, r2) := by rw [if_pos rfl] at H; exact H
      clear H
      have H := H1
      clear H1
      by_cases c7 : a1 < (-8)
      · rw [if_pos c7] at H
        have c7b0 : decide (a1 < (-8)) = true := decide_eq_true c7
        clear c7
        (first | rw [c7b0] | (simp only [i64_w, i32_w]; rw [c7b0]) | skip)
        have H' := Aside0.mk H
        clear H
        go_wp2_with (first | ((with_reducible refine gate_callee (f := 59) rfl ?_); refine goesL_ (some 13) rfl rfl Tryz.func59 (by kernel_rfl) rfl #[.int .i64 a0] rfl (by (try simp only [List.map_toArray, List.map_cons, List.map_nil]); first | done | rfl | (simp only [List.length_drop, List.length_take]; rfl)) ?_; (with_reducible refine (num_Good.calls a0 true _ A5.out).mono ?_); rintro e w' ⟨rfl, ⟨nd, rfl⟩⟩; refine ⟨_, rfl, ?_⟩))
        go_meet
        case rel => exact ⟨_, (true), (by first | rfl | (simp; done) | (simp [*]; done) | (simp [Go.Proofs.YtnpcmgajplikbaaGreatDoor.X.bne_nil]; done)), H', ⟨by first | omega | exact Nat.le_refl _⟩, by repeat (first | exact Drawn0.refl _ | apply Drawn0.step)⟩
      · rw [if_neg c7] at H
        have c7b0 : decide (a1 < (-8)) = false := decide_eq_false c7
        clear c7
        (first | rw [c7b0] | (simp only [i64_w, i32_w]; rw [c7b0]) | skip)
        by_cases c8 : a1 > 4
        · rw [if_pos c8] at H
          have c8b0 : decide (4 < a1) = true := decide_eq_true c8
          clear c8
          have H' := Aside0.mk H
          clear H
          go_wp2_with (first | ((with_reducible refine gate_callee (f := 59) rfl ?_); refine goesL_ (some 13) rfl rfl Tryz.func59 (by kernel_rfl) rfl #[.int .i64 a0] rfl (by (try simp only [List.map_toArray, List.map_cons, List.map_nil]); first | done | rfl | (simp only [List.length_drop, List.length_take]; rfl)) ?_; (with_reducible refine (num_Good.calls a0 true _ A5.out).mono ?_); rintro e w' ⟨rfl, ⟨nd, rfl⟩⟩; refine ⟨_, rfl, ?_⟩))
          go_meet
          case rel => exact ⟨_, (true), (by first | rfl | (simp; done) | (simp [*]; done) | (simp [Go.Proofs.YtnpcmgajplikbaaGreatDoor.X.bne_nil]; done)), H', ⟨by first | omega | exact Nat.le_refl _⟩, by repeat (first | exact Drawn0.refl _ | apply Drawn0.step)⟩
        · rw [if_neg c8] at H
          have c8b0 : decide (4 < a1) = false := decide_eq_false c8
          clear c8
          by_cases c9 : a2 < 0
          · rw [if_pos c9] at H
            have c9b0 : decide (a2 < 0) = true := decide_eq_true c9
            clear c9
            have H' := Aside0.mk H
            clear H
            go_wp2_with (first | ((with_reducible refine gate_callee (f := 59) rfl ?_); refine goesL_ (some 13) rfl rfl Tryz.func59 (by kernel_rfl) rfl #[.int .i64 a0] rfl (by (try simp only [List.map_toArray, List.map_cons, List.map_nil]); first | done | rfl | (simp only [List.length_drop, List.length_take]; rfl)) ?_; (with_reducible refine (num_Good.calls a0 true _ A5.out).mono ?_); rintro e w' ⟨rfl, ⟨nd, rfl⟩⟩; refine ⟨_, rfl, ?_⟩))
            go_meet
            case rel => exact ⟨_, (true), (by first | rfl | (simp; done) | (simp [*]; done) | (simp [Go.Proofs.YtnpcmgajplikbaaGreatDoor.X.bne_nil]; done)), H', ⟨by first | omega | exact Nat.le_refl _⟩, by repeat (first | exact Drawn0.refl _ | apply Drawn0.step)⟩
          · rw [if_neg c9] at H
            have c9b0 : decide (a2 < 0) = false := decide_eq_false c9
            clear c9
            have H' := Aside0.mk H
            clear H
            go_wp2_with (first | ((with_reducible refine gate_callee (f := 59) rfl ?_); refine goesL_ (some 13) rfl rfl Tryz.func59 (by kernel_rfl) rfl #[.int .i64 a0] rfl (by (try simp only [List.map_toArray, List.map_cons, List.map_nil]); first | done | rfl | (simp only [List.length_drop, List.length_take]; rfl)) ?_; (with_reducible refine (num_Good.calls a0 true _ A5.out).mono ?_); rintro e w' ⟨rfl, ⟨nd, rfl⟩⟩; refine ⟨_, rfl, ?_⟩))
            go_meet
            case rel => exact ⟨_, (decide (a2 > 4)), (by first | rfl | (simp; done) | (simp [*]; done) | (simp [Go.Proofs.YtnpcmgajplikbaaGreatDoor.X.bne_nil]; done)), H', ⟨by first | omega | exact Nat.le_refl _⟩, by repeat (first | exact Drawn0.refl _ | apply Drawn0.step)⟩
    · replace c6 := Bool.eq_false_iff.mpr c6
      subst c6
      have H1 : (num_Round.j0 k a0 a1 a2 true) = some (r1, r2) := by rw [if_neg (show ¬ (false = true) by decide)] at H; exact H
      clear H
      have H := H1
      clear H1
      have H' := Aside0.mk H
      clear H
      go_wp2_with (first | ((with_reducible refine gate_callee (f := 59) rfl ?_); refine goesL_ (some 13) rfl rfl Tryz.func59 (by kernel_rfl) rfl #[.int .i64 a0] rfl (by (try simp only [List.map_toArray, List.map_cons, List.map_nil]); first | done | rfl | (simp only [List.length_drop, List.length_take]; rfl)) ?_; (with_reducible refine (num_Good.calls a0 false _ A5.out).mono ?_); rintro e w' ⟨rfl, ⟨nd, rfl⟩⟩; refine ⟨_, rfl, ?_⟩))
      go_meet
      case rel => exact ⟨_, (true), (by first | rfl | (simp; done) | (simp [*]; done) | (simp [Go.Proofs.YtnpcmgajplikbaaGreatDoor.X.bne_nil]; done)), H', ⟨by first | omega | exact Nat.le_refl _⟩, by repeat (first | exact Drawn0.refl _ | apply Drawn0.step)⟩
  case rest =>
    clear HC4
    try clear p2
    try clear c3
    try clear c5
    try clear c6
    try clear c7
    try clear c7b0
    try clear c8
    try clear c8b0
    try clear c9
    try clear c9b0
    obtain ⟨kq, x30_3, rfl, HA, HJ3, ⟨mc3, rfl⟩⟩ := hcut
    cases kq with
    | zero => exact absurd HA.out (by simp [num_Round.j0])
    | succ kj3 =>
      have H := HA.out
      clear HA
      simp only [num_Round.j0] at H
      by_cases c10 : x30_3 = true
      · subst c10
        have H1 : (some (0, false)) = some (r1, r2) := by rw [if_pos rfl] at H; exact H
        clear H
        have H := H1
        clear H1
        simp only [Option.some.injEq, Prod.mk.injEq] at H
        obtain ⟨rfl, rfl⟩ := H
        go_wp2
        go_ret2
        exact ⟨by first | rfl | (simp; done) | (simp [*]; done) | (simp [Go.Proofs.YtnpcmgajplikbaaGreatDoor.X.bne_nil]; done), by repeat (first | exact Drawn0.refl _ | apply Drawn0.step)⟩
      · replace c10 := Bool.eq_false_iff.mpr c10
        subst c10
        have H1 : (num_Round.l0 kj3 a0 a2 1 (wrap64 (4 - a1)) 0) = some (r1, r2) := by rw [if_neg (show ¬ (false = true) by decide)] at H; exact H
        clear H
        have H := H1
        clear H1
        have H' := Aside0.mk H
        clear H
        go_wp2
        go_loopg [8, 33] kj3 (fun kq v8 v33 w' => ∃ (x8_2 : Int) (x33_2 : Int), v8 = .int .i64 x8_2 ∧ v33 = .int .i64 x33_2 ∧ Aside0 (num_Round.l0 kq a0 a2 x8_2 (wrap64 (4 - a1)) x33_2 = some (r1, r2)) ∧ Aside0 (kq ≤ kj3) ∧ Drawn0 w w')
        case atStart => exact ⟨(1), (0), (by first | rfl | (simp; done) | (simp [*]; done) | (simp [Go.Proofs.YtnpcmgajplikbaaGreatDoor.X.bne_nil]; done)), (by first | rfl | (simp; done) | (simp [*]; done) | (simp [Go.Proofs.YtnpcmgajplikbaaGreatDoor.X.bne_nil]; done)), H', ⟨Nat.le_refl _⟩, by repeat (first | exact Drawn0.refl _ | apply Drawn0.step)⟩
        case round =>
          clear H'
          try clear c1
          try clear p2
          try clear c3
          try clear c5
          try clear c6
          try clear p6
          try clear c7
          try clear c7b0
          try clear c8
          try clear c8b0
          try clear c9
          try clear c9b0
          try clear c10
          try clear p2
          obtain ⟨x8_2, x33_2, rfl, rfl, HA, HK2, ⟨m2, rfl⟩⟩ := hrel
          cases gk with
          | zero => exact absurd HA.out (by simp [num_Round.l0])
          | succ k2 =>
            have H := HA.out
            clear HA
            simp only [num_Round.l0] at H
            by_cases c11 : x33_2 < (wrap64 (4 - a1))
            · rw [if_pos c11] at H
              have c11b0 : decide (x33_2 < (wrap64 (4 - a1))) = true := decide_eq_true c11
              clear c11
              have H' := Aside0.mk H
              clear H
              go_wp2
              go_roundg k2
              case measure => have := HJ3.out; have := HK2.out; omega
              case rel => exact ⟨(wrap64 (x8_2 * 10)), (wrap64 (x33_2 + 1)), (by first | rfl | (simp; done) | (simp [*]; done) | (simp [Go.Proofs.YtnpcmgajplikbaaGreatDoor.X.bne_nil]; done)), (by first | rfl | (simp; done) | (simp [*]; done) | (simp [Go.Proofs.YtnpcmgajplikbaaGreatDoor.X.bne_nil]; done)), H', ⟨by have := HJ3.out; have := HK2.out; omega⟩, by repeat (first | exact Drawn0.refl _ | apply Drawn0.step)⟩
            · rw [if_neg c11] at H
              have c11b0 : decide (x33_2 < (wrap64 (4 - a1))) = false := decide_eq_false c11
              clear c11
              replace H := Option.bind_eq_some_iff.mp H
              obtain ⟨t155, A120, H⟩ := H
              replace H : (if (wrap64 (a0 - (wrap64 (t155 * x8_2)))) = 0 then (some (a0, true)) else (if (wrap64 (2 * (wrap64 (a0 - (wrap64 (t155 * x8_2)))))) > x8_2 then (if 0 ≤ a2 then (if a2 < 5 then (if (rdOf false ([true, decide (a0 > 0), decide (a0 < 0), true, false] : List Bool) a2) = true then ((num_told.f (wrap64 ((wrap64 (a0 - (wrap64 (a0 - (wrap64 (t155 * x8_2)))))) + x8_2))).bind fun bt156 => (some (bt156.1, bt156.2))) else ((num_told.f (wrap64 (a0 - (wrap64 (a0 - (wrap64 (t155 * x8_2))))))).bind fun bt158 => (some (bt158.1, bt158.2)))) else (none)) else (none)) else (if (wrap64 (2 * (wrap64 (a0 - (wrap64 (t155 * x8_2)))))) = x8_2 then (if 0 ≤ a2 then (if a2 < 5 then (if (rdOf false ([decide (a0 > 0), decide (a0 > 0), decide (a0 < 0), true, false] : List Bool) a2) = true then ((num_told.f (wrap64 ((wrap64 (a0 - (wrap64 (a0 - (wrap64 (t155 * x8_2)))))) + x8_2))).bind fun bt160 => (some (bt160.1, bt160.2))) else ((num_told.f (wrap64 (a0 - (wrap64 (a0 - (wrap64 (t155 * x8_2))))))).bind fun bt162 => (some (bt162.1, bt162.2)))) else (none)) else (none)) else (if 0 ≤ a2 then (if a2 < 5 then (if (rdOf false ([false, decide (a0 > 0), decide (a0 < 0), true, false] : List Bool) a2) = true then ((num_told.f (wrap64 ((wrap64 (a0 - (wrap64 (a0 - (wrap64 (t155 * x8_2)))))) + x8_2))).bind fun bt164 => (some (bt164.1, bt164.2))) else ((num_told.f (wrap64 (a0 - (wrap64 (a0 - (wrap64 (t155 * x8_2))))))).bind fun bt166 => (some (bt166.1, bt166.2)))) else (none)) else (none))))) = some (r1, r2) := H
              have A12 := Aside0.mk A120
              clear A120
              by_cases c13 : (wrap64 (a0 - (wrap64 (t155 * x8_2)))) = 0
              · rw [if_pos c13] at H
                have c13b0 : ((wrap64 (a0 - (wrap64 (t155 * x8_2)))) == 0) = true := beq_iff_eq.mpr c13
                have c13b1 : ((wrap64 (a0 - (wrap64 (t155 * x8_2)))) != 0) = false := bne_eq_false_iff_eq.mpr c13
                clear c13
                simp only [Option.some.injEq, Prod.mk.injEq] at H
                obtain ⟨rfl, rfl⟩ := H
                go_wp2_with (first | ((with_reducible refine gate_callee (f := 75) rfl ?_); refine goesL_ (some 41) rfl rfl Tryz.func75 (by kernel_rfl) rfl #[.int .i64 a0, .int .i64 x8_2] rfl (by (try simp only [List.map_toArray, List.map_cons, List.map_nil]); first | done | rfl | (simp only [List.length_drop, List.length_take]; rfl)) ?_; (with_reducible refine (num_floor.calls a0 x8_2 t155 _ A12.out).mono ?_); rintro e w' ⟨rfl, ⟨nd, rfl⟩⟩; refine ⟨_, rfl, ?_⟩))
                go_ret2
                exact ⟨by first | rfl | (simp; done) | (simp [*]; done) | (simp [Go.Proofs.YtnpcmgajplikbaaGreatDoor.X.bne_nil]; done), by repeat (first | exact Drawn0.refl _ | apply Drawn0.step)⟩
              · rw [if_neg c13] at H
                have c13b0 : ((wrap64 (a0 - (wrap64 (t155 * x8_2)))) == 0) = false := beq_eq_false_iff_ne.mpr c13
                have c13b1 : ((wrap64 (a0 - (wrap64 (t155 * x8_2)))) != 0) = true := bne_iff_ne.mpr c13
                by_cases c14 : (wrap64 (2 * (wrap64 (a0 - (wrap64 (t155 * x8_2)))))) > x8_2
                · rw [if_pos c14] at H
                  have c14b0 : decide (x8_2 < (wrap64 (2 * (wrap64 (a0 - (wrap64 (t155 * x8_2))))))) = true := decide_eq_true c14
                  clear c14
                  by_cases c15 : 0 ≤ a2
                  · rw [if_pos c15] at H
                    have c15b0 : decide (0 ≤ a2) = true := decide_eq_true c15
                    clear c15
                    by_cases c16 : a2 < 5
                    · rw [if_pos c16] at H
                      have c16b0 : decide (a2 < 5) = true := decide_eq_true c16
                      clear c16
                      obtain ⟨bq18, hbq18⟩ : ∃ b_ : Bool, b_ = ((rdOf false ([true, decide (a0 > 0), decide (a0 < 0), true, false] : List Bool) a2)) := ⟨_, rfl⟩
                      replace H : (if bq18 = true then ((num_told.f (wrap64 ((wrap64 (a0 - (wrap64 (a0 - (wrap64 (t155 * x8_2)))))) + x8_2))).bind fun bt156 => (some (bt156.1, bt156.2))) else ((num_told.f (wrap64 (a0 - (wrap64 (a0 - (wrap64 (t155 * x8_2))))))).bind fun bt158 => (some (bt158.1, bt158.2)))) = some (r1, r2) := by rw [← hbq18] at H; exact H
                      have Nbq18 := Aside0.mk hbq18
                      clear hbq18
                      by_cases c19 : bq18 = true
                      · subst c19
                        have H1 : ((num_told.f (wrap64 ((wrap64 (a0 - (wrap64 (a0 - (wrap64 (t155 * x8_2)))))) + x8_2))).bind fun bt156 => (some (bt156.1, bt156.2))) = some (r1, r2) := by rw [if_pos rfl] at H; exact H
                        clear H
                        have H := H1
                        clear H1
                        replace H := Option.bind_eq_some_iff.mp H
                        obtain ⟨⟨t156, t157⟩, A200, H⟩ := H
                        replace H : (some (t156, t157)) = some (r1, r2) := H
                        have A20 := Aside0.mk A200
                        clear A200
                        simp only [Option.some.injEq, Prod.mk.injEq] at H
                        obtain ⟨rfl, rfl⟩ := H
                        go_wp2_with (first | ((with_reducible refine gate_callee (f := 75) rfl ?_); refine goesL_ (some 41) rfl rfl Tryz.func75 (by kernel_rfl) rfl #[.int .i64 a0, .int .i64 x8_2] rfl (by (try simp only [List.map_toArray, List.map_cons, List.map_nil]); first | done | rfl | (simp only [List.length_drop, List.length_take]; rfl)) ?_; (with_reducible refine (num_floor.calls a0 x8_2 t155 _ A12.out).mono ?_); rintro e w' ⟨rfl, ⟨nd, rfl⟩⟩; refine ⟨_, rfl, ?_⟩; have p17 : 0 ≤ (a2 : Int) := of_decide_eq_true (by first | (with_reducible assumption) | assumption); have q17 : a2 < (5 : Int) := of_decide_eq_true (by first | (with_reducible assumption) | assumption); have hx17 : ∀ w_ : World, (Instr.index 80 (.agg #[.bool true, .bool (decide (a0 > 0)), .bool (decide (a0 < 0)), .bool true, .bool false]) (.int .i64 a2)).run Tryz.prog w_ = .ok (.bool (rdOf false ([true, decide (a0 > 0), decide (a0 < 0), true, false] : List Bool) a2)) w_ := fun w_ => Go.Proofs.YtnpcmgajplikbaaGreatDoor.X.run_index_array 80 4 5 _ _ _ _ (by kernel_rfl) (by kernel_rfl) (by kernel_rfl) p17 q17 (Go.Proofs.YtnpcmgajplikbaaGreatDoor.X.at_bools ([true, decide (a0 > 0), decide (a0 < 0), true, false] : List Bool) a2 q17 p17); (try rw [← Nbq18.out] at hx17); replace p17 := eq_true p17; replace q17 := eq_true q17) | ((with_reducible refine gate_callee (f := 76) rfl ?_); refine goesL_ (some 77) rfl rfl Tryz.func76 (by kernel_rfl) rfl #[.int .i64 (wrap64 ((wrap64 (a0 - (wrap64 (a0 - (wrap64 (t155 * x8_2)))))) + x8_2))] rfl (by (try simp only [List.map_toArray, List.map_cons, List.map_nil]); first | done | rfl | (simp only [List.length_drop, List.length_take]; rfl)) ?_; (with_reducible refine (num_told.calls (wrap64 ((wrap64 (a0 - (wrap64 (a0 - (wrap64 (t155 * x8_2)))))) + x8_2)) t156 t157 _ A20.out).mono ?_); rintro e w' ⟨rfl, ⟨nd, rfl⟩⟩; refine ⟨_, rfl, ?_⟩))
                        go_ret2
                        exact ⟨by first | rfl | (simp; done) | (simp [*]; done) | (simp [Go.Proofs.YtnpcmgajplikbaaGreatDoor.X.bne_nil]; done), by repeat (first | exact Drawn0.refl _ | apply Drawn0.step)⟩
                      · replace c19 := Bool.eq_false_iff.mpr c19
                        subst c19
                        have H1 : ((num_told.f (wrap64 (a0 - (wrap64 (a0 - (wrap64 (t155 * x8_2))))))).bind fun bt158 => (some (bt158.1, bt158.2))) = some (r1, r2) := by rw [if_neg (show ¬ (false = true) by decide)] at H; exact H
                        clear H
                        have H := H1
                        clear H1
                        replace H := Option.bind_eq_some_iff.mp H
                        obtain ⟨⟨t158, t159⟩, A210, H⟩ := H
                        replace H : (some (t158, t159)) = some (r1, r2) := H
                        have A21 := Aside0.mk A210
                        clear A210
                        simp only [Option.some.injEq, Prod.mk.injEq] at H
                        obtain ⟨rfl, rfl⟩ := H
                        go_wp2_with (first | ((with_reducible refine gate_callee (f := 75) rfl ?_); refine goesL_ (some 41) rfl rfl Tryz.func75 (by kernel_rfl) rfl #[.int .i64 a0, .int .i64 x8_2] rfl (by (try simp only [List.map_toArray, List.map_cons, List.map_nil]); first | done | rfl | (simp only [List.length_drop, List.length_take]; rfl)) ?_; (with_reducible refine (num_floor.calls a0 x8_2 t155 _ A12.out).mono ?_); rintro e w' ⟨rfl, ⟨nd, rfl⟩⟩; refine ⟨_, rfl, ?_⟩; have p17 : 0 ≤ (a2 : Int) := of_decide_eq_true (by first | (with_reducible assumption) | assumption); have q17 : a2 < (5 : Int) := of_decide_eq_true (by first | (with_reducible assumption) | assumption); have hx17 : ∀ w_ : World, (Instr.index 80 (.agg #[.bool true, .bool (decide (a0 > 0)), .bool (decide (a0 < 0)), .bool true, .bool false]) (.int .i64 a2)).run Tryz.prog w_ = .ok (.bool (rdOf false ([true, decide (a0 > 0), decide (a0 < 0), true, false] : List Bool) a2)) w_ := fun w_ => Go.Proofs.YtnpcmgajplikbaaGreatDoor.X.run_index_array 80 4 5 _ _ _ _ (by kernel_rfl) (by kernel_rfl) (by kernel_rfl) p17 q17 (Go.Proofs.YtnpcmgajplikbaaGreatDoor.X.at_bools ([true, decide (a0 > 0), decide (a0 < 0), true, false] : List Bool) a2 q17 p17); (try rw [← Nbq18.out] at hx17); replace p17 := eq_true p17; replace q17 := eq_true q17) | ((with_reducible refine gate_callee (f := 76) rfl ?_); refine goesL_ (some 77) rfl rfl Tryz.func76 (by kernel_rfl) rfl #[.int .i64 (wrap64 (a0 - (wrap64 (a0 - (wrap64 (t155 * x8_2))))))] rfl (by (try simp only [List.map_toArray, List.map_cons, List.map_nil]); first | done | rfl | (simp only [List.length_drop, List.length_take]; rfl)) ?_; (with_reducible refine (num_told.calls (wrap64 (a0 - (wrap64 (a0 - (wrap64 (t155 * x8_2)))))) t158 t159 _ A21.out).mono ?_); rintro e w' ⟨rfl, ⟨nd, rfl⟩⟩; refine ⟨_, rfl, ?_⟩))
                        go_ret2
                        exact ⟨by first | rfl | (simp; done) | (simp [*]; done) | (simp [Go.Proofs.YtnpcmgajplikbaaGreatDoor.X.bne_nil]; done), by repeat (first | exact Drawn0.refl _ | apply Drawn0.step)⟩
                    · rw [if_neg c16] at H
                      exact absurd H (by simp)
                  · rw [if_neg c15] at H
                    exact absurd H (by simp)
                · rw [if_neg c14] at H
                  have c14b0 : decide (x8_2 < (wrap64 (2 * (wrap64 (a0 - (wrap64 (t155 * x8_2))))))) = false := decide_eq_false c14
                  clear c14
                  by_cases c22 : (wrap64 (2 * (wrap64 (a0 - (wrap64 (t155 * x8_2)))))) = x8_2
                  · rw [if_pos c22] at H
                    have c22b0 : ((wrap64 (2 * (wrap64 (a0 - (wrap64 (t155 * x8_2)))))) == x8_2) = true := beq_iff_eq.mpr c22
                    have c22b1 : ((wrap64 (2 * (wrap64 (a0 - (wrap64 (t155 * x8_2)))))) != x8_2) = false := bne_eq_false_iff_eq.mpr c22
                    clear c22
                    by_cases c23 : 0 ≤ a2
                    · rw [if_pos c23] at H
                      have c23b0 : decide (0 ≤ a2) = true := decide_eq_true c23
                      clear c23
                      by_cases c24 : a2 < 5
                      · rw [if_pos c24] at H
                        have c24b0 : decide (a2 < 5) = true := decide_eq_true c24
                        clear c24
                        obtain ⟨bq26, hbq26⟩ : ∃ b_ : Bool, b_ = ((rdOf false ([decide (a0 > 0), decide (a0 > 0), decide (a0 < 0), true, false] : List Bool) a2)) := ⟨_, rfl⟩
                        replace H : (if bq26 = true then ((num_told.f (wrap64 ((wrap64 (a0 - (wrap64 (a0 - (wrap64 (t155 * x8_2)))))) + x8_2))).bind fun bt160 => (some (bt160.1, bt160.2))) else ((num_told.f (wrap64 (a0 - (wrap64 (a0 - (wrap64 (t155 * x8_2))))))).bind fun bt162 => (some (bt162.1, bt162.2)))) = some (r1, r2) := by rw [← hbq26] at H; exact H
                        have Nbq26 := Aside0.mk hbq26
                        clear hbq26
                        by_cases c27 : bq26 = true
                        · subst c27
                          have H1 : ((num_told.f (wrap64 ((wrap64 (a0 - (wrap64 (a0 - (wrap64 (t155 * x8_2)))))) + x8_2))).bind fun bt160 => (some (bt160.1, bt160.2))) = some (r1, r2) := by rw [if_pos rfl] at H; exact H
                          clear H
                          have H := H1
                          clear H1
                          replace H := Option.bind_eq_some_iff.mp H
                          obtain ⟨⟨t160, t161⟩, A280, H⟩ := H
                          replace H : (some (t160, t161)) = some (r1, r2) := H
                          have A28 := Aside0.mk A280
                          clear A280
                          simp only [Option.some.injEq, Prod.mk.injEq] at H
                          obtain ⟨rfl, rfl⟩ := H
                          go_wp2_with (first | ((with_reducible refine gate_callee (f := 75) rfl ?_); refine goesL_ (some 41) rfl rfl Tryz.func75 (by kernel_rfl) rfl #[.int .i64 a0, .int .i64 x8_2] rfl (by (try simp only [List.map_toArray, List.map_cons, List.map_nil]); first | done | rfl | (simp only [List.length_drop, List.length_take]; rfl)) ?_; (with_reducible refine (num_floor.calls a0 x8_2 t155 _ A12.out).mono ?_); rintro e w' ⟨rfl, ⟨nd, rfl⟩⟩; refine ⟨_, rfl, ?_⟩; have p25 : 0 ≤ (a2 : Int) := of_decide_eq_true (by first | (with_reducible assumption) | assumption); have q25 : a2 < (5 : Int) := of_decide_eq_true (by first | (with_reducible assumption) | assumption); have hx25 : ∀ w_ : World, (Instr.index 80 (.agg #[.bool (decide (a0 > 0)), .bool (decide (a0 > 0)), .bool (decide (a0 < 0)), .bool true, .bool false]) (.int .i64 a2)).run Tryz.prog w_ = .ok (.bool (rdOf false ([decide (a0 > 0), decide (a0 > 0), decide (a0 < 0), true, false] : List Bool) a2)) w_ := fun w_ => Go.Proofs.YtnpcmgajplikbaaGreatDoor.X.run_index_array 80 4 5 _ _ _ _ (by kernel_rfl) (by kernel_rfl) (by kernel_rfl) p25 q25 (Go.Proofs.YtnpcmgajplikbaaGreatDoor.X.at_bools ([decide (a0 > 0), decide (a0 > 0), decide (a0 < 0), true, false] : List Bool) a2 q25 p25); (try rw [← Nbq26.out] at hx25); replace p25 := eq_true p25; replace q25 := eq_true q25) | ((with_reducible refine gate_callee (f := 76) rfl ?_); refine goesL_ (some 77) rfl rfl Tryz.func76 (by kernel_rfl) rfl #[.int .i64 (wrap64 ((wrap64 (a0 - (wrap64 (a0 - (wrap64 (t155 * x8_2)))))) + x8_2))] rfl (by (try simp only [List.map_toArray, List.map_cons, List.map_nil]); first | done | rfl | (simp only [List.length_drop, List.length_take]; rfl)) ?_; (with_reducible refine (num_told.calls (wrap64 ((wrap64 (a0 - (wrap64 (a0 - (wrap64 (t155 * x8_2)))))) + x8_2)) t160 t161 _ A28.out).mono ?_); rintro e w' ⟨rfl, ⟨nd, rfl⟩⟩; refine ⟨_, rfl, ?_⟩))
                          go_ret2
                          exact ⟨by first | rfl | (simp; done) | (simp [*]; done) | (simp [Go.Proofs.YtnpcmgajplikbaaGreatDoor.X.bne_nil]; done), by repeat (first | exact Drawn0.refl _ | apply Drawn0.step)⟩
                        · replace c27 := Bool.eq_false_iff.mpr c27
                          subst c27
                          have H1 : ((num_told.f (wrap64 (a0 - (wrap64 (a0 - (wrap64 (t155 * x8_2))))))).bind fun bt162 => (some (bt162.1, bt162.2))) = some (r1, r2) := by rw [if_neg (show ¬ (false = true) by decide)] at H; exact H
                          clear H
                          have H := H1
                          clear H1
                          replace H := Option.bind_eq_some_iff.mp H
                          obtain ⟨⟨t162, t163⟩, A290, H⟩ := H
                          replace H : (some (t162, t163)) = some (r1, r2) := H
                          have A29 := Aside0.mk A290
                          clear A290
                          simp only [Option.some.injEq, Prod.mk.injEq] at H
                          obtain ⟨rfl, rfl⟩ := H
                          go_wp2_with (first | ((with_reducible refine gate_callee (f := 75) rfl ?_); refine goesL_ (some 41) rfl rfl Tryz.func75 (by kernel_rfl) rfl #[.int .i64 a0, .int .i64 x8_2] rfl (by (try simp only [List.map_toArray, List.map_cons, List.map_nil]); first | done | rfl | (simp only [List.length_drop, List.length_take]; rfl)) ?_; (with_reducible refine (num_floor.calls a0 x8_2 t155 _ A12.out).mono ?_); rintro e w' ⟨rfl, ⟨nd, rfl⟩⟩; refine ⟨_, rfl, ?_⟩; have p25 : 0 ≤ (a2 : Int) := of_decide_eq_true (by first | (with_reducible assumption) | assumption); have q25 : a2 < (5 : Int) := of_decide_eq_true (by first | (with_reducible assumption) | assumption); have hx25 : ∀ w_ : World, (Instr.index 80 (.agg #[.bool (decide (a0 > 0)), .bool (decide (a0 > 0)), .bool (decide (a0 < 0)), .bool true, .bool false]) (.int .i64 a2)).run Tryz.prog w_ = .ok (.bool (rdOf false ([decide (a0 > 0), decide (a0 > 0), decide (a0 < 0), true, false] : List Bool) a2)) w_ := fun w_ => Go.Proofs.YtnpcmgajplikbaaGreatDoor.X.run_index_array 80 4 5 _ _ _ _ (by kernel_rfl) (by kernel_rfl) (by kernel_rfl) p25 q25 (Go.Proofs.YtnpcmgajplikbaaGreatDoor.X.at_bools ([decide (a0 > 0), decide (a0 > 0), decide (a0 < 0), true, false] : List Bool) a2 q25 p25); (try rw [← Nbq26.out] at hx25); replace p25 := eq_true p25; replace q25 := eq_true q25) | ((with_reducible refine gate_callee (f := 76) rfl ?_); refine goesL_ (some 77) rfl rfl Tryz.func76 (by kernel_rfl) rfl #[.int .i64 (wrap64 (a0 - (wrap64 (a0 - (wrap64 (t155 * x8_2))))))] rfl (by (try simp only [List.map_toArray, List.map_cons, List.map_nil]); first | done | rfl | (simp only [List.length_drop, List.length_take]; rfl)) ?_; (with_reducible refine (num_told.calls (wrap64 (a0 - (wrap64 (a0 - (wrap64 (t155 * x8_2)))))) t162 t163 _ A29.out).mono ?_); rintro e w' ⟨rfl, ⟨nd, rfl⟩⟩; refine ⟨_, rfl, ?_⟩))
                          go_ret2
                          exact ⟨by first | rfl | (simp; done) | (simp [*]; done) | (simp [Go.Proofs.YtnpcmgajplikbaaGreatDoor.X.bne_nil]; done), by repeat (first | exact Drawn0.refl _ | apply Drawn0.step)⟩
                      · rw [if_neg c24] at H
                        exact absurd H (by simp)
                    · rw [if_neg c23] at H
                      exact absurd H (by simp)
                  · rw [if_neg c22] at H
                    have c22b0 : ((wrap64 (2 * (wrap64 (a0 - (wrap64 (t155 * x8_2)))))) == x8_2) = false := beq_eq_false_iff_ne.mpr c22
                    have c22b1 : ((wrap64 (2 * (wrap64 (a0 - (wrap64 (t155 * x8_2)))))) != x8_2) = true := bne_iff_ne.mpr c22
                    by_cases c30 : 0 ≤ a2
                    · rw [if_pos c30] at H
                      have c30b0 : decide (0 ≤ a2) = true := decide_eq_true c30
                      clear c30
                      by_cases c31 : a2 < 5
                      · rw [if_pos c31] at H
                        have c31b0 : decide (a2 < 5) = true := decide_eq_true c31
                        clear c31
                        obtain ⟨bq33, hbq33⟩ : ∃ b_ : Bool, b_ = ((rdOf false ([false, decide (a0 > 0), decide (a0 < 0), true, false] : List Bool) a2)) := ⟨_, rfl⟩
                        replace H : (if bq33 = true then ((num_told.f (wrap64 ((wrap64 (a0 - (wrap64 (a0 - (wrap64 (t155 * x8_2)))))) + x8_2))).bind fun bt164 => (some (bt164.1, bt164.2))) else ((num_told.f (wrap64 (a0 - (wrap64 (a0 - (wrap64 (t155 * x8_2))))))).bind fun bt166 => (some (bt166.1, bt166.2)))) = some (r1, r2) := by rw [← hbq33] at H; exact H
                        have Nbq33 := Aside0.mk hbq33
                        clear hbq33
                        by_cases c34 : bq33 = true
                        · subst c34
                          have H1 : ((num_told.f (wrap64 ((wrap64 (a0 - (wrap64 (a0 - (wrap64 (t155 * x8_2)))))) + x8_2))).bind fun bt164 => (some (bt164.1, bt164.2))) = some (r1, r2) := by rw [if_pos rfl] at H; exact H
                          clear H
                          have H := H1
                          clear H1
                          replace H := Option.bind_eq_some_iff.mp H
                          obtain ⟨⟨t164, t165⟩, A350, H⟩ := H
                          replace H : (some (t164, t165)) = some (r1, r2) := H
                          have A35 := Aside0.mk A350
                          clear A350
                          simp only [Option.some.injEq, Prod.mk.injEq] at H
                          obtain ⟨rfl, rfl⟩ := H
                          go_wp2_with (first | ((with_reducible refine gate_callee (f := 75) rfl ?_); refine goesL_ (some 41) rfl rfl Tryz.func75 (by kernel_rfl) rfl #[.int .i64 a0, .int .i64 x8_2] rfl (by (try simp only [List.map_toArray, List.map_cons, List.map_nil]); first | done | rfl | (simp only [List.length_drop, List.length_take]; rfl)) ?_; (with_reducible refine (num_floor.calls a0 x8_2 t155 _ A12.out).mono ?_); rintro e w' ⟨rfl, ⟨nd, rfl⟩⟩; refine ⟨_, rfl, ?_⟩; have p32 : 0 ≤ (a2 : Int) := of_decide_eq_true (by first | (with_reducible assumption) | assumption); have q32 : a2 < (5 : Int) := of_decide_eq_true (by first | (with_reducible assumption) | assumption); have hx32 : ∀ w_ : World, (Instr.index 80 (.agg #[.bool false, .bool (decide (a0 > 0)), .bool (decide (a0 < 0)), .bool true, .bool false]) (.int .i64 a2)).run Tryz.prog w_ = .ok (.bool (rdOf false ([false, decide (a0 > 0), decide (a0 < 0), true, false] : List Bool) a2)) w_ := fun w_ => Go.Proofs.YtnpcmgajplikbaaGreatDoor.X.run_index_array 80 4 5 _ _ _ _ (by kernel_rfl) (by kernel_rfl) (by kernel_rfl) p32 q32 (Go.Proofs.YtnpcmgajplikbaaGreatDoor.X.at_bools ([false, decide (a0 > 0), decide (a0 < 0), true, false] : List Bool) a2 q32 p32); (try rw [← Nbq33.out] at hx32); replace p32 := eq_true p32; replace q32 := eq_true q32) | ((with_reducible refine gate_callee (f := 76) rfl ?_); refine goesL_ (some 77) rfl rfl Tryz.func76 (by kernel_rfl) rfl #[.int .i64 (wrap64 ((wrap64 (a0 - (wrap64 (a0 - (wrap64 (t155 * x8_2)))))) + x8_2))] rfl (by (try simp only [List.map_toArray, List.map_cons, List.map_nil]); first | done | rfl | (simp only [List.length_drop, List.length_take]; rfl)) ?_; (with_reducible refine (num_told.calls (wrap64 ((wrap64 (a0 - (wrap64 (a0 - (wrap64 (t155 * x8_2)))))) + x8_2)) t164 t165 _ A35.out).mono ?_); rintro e w' ⟨rfl, ⟨nd, rfl⟩⟩; refine ⟨_, rfl, ?_⟩))
                          go_ret2
                          exact ⟨by first | rfl | (simp; done) | (simp [*]; done) | (simp [Go.Proofs.YtnpcmgajplikbaaGreatDoor.X.bne_nil]; done), by repeat (first | exact Drawn0.refl _ | apply Drawn0.step)⟩
                        · replace c34 := Bool.eq_false_iff.mpr c34
                          subst c34
                          have H1 : ((num_told.f (wrap64 (a0 - (wrap64 (a0 - (wrap64 (t155 * x8_2))))))).bind fun bt166 => (some (bt166.1, bt166.2))) = some (r1, r2) := by rw [if_neg (show ¬ (false = true) by decide)] at H; exact H
                          clear H
                          have H := H1
                          clear H1
                          replace H := Option.bind_eq_some_iff.mp H
                          obtain ⟨⟨t166, t167⟩, A360, H⟩ := H
                          replace H : (some (t166, t167)) = some (r1, r2) := H
                          have A36 := Aside0.mk A360
                          clear A360
                          simp only [Option.some.injEq, Prod.mk.injEq] at H
                          obtain ⟨rfl, rfl⟩ := H
                          go_wp2_with (first | ((with_reducible refine gate_callee (f := 75) rfl ?_); refine goesL_ (some 41) rfl rfl Tryz.func75 (by kernel_rfl) rfl #[.int .i64 a0, .int .i64 x8_2] rfl (by (try simp only [List.map_toArray, List.map_cons, List.map_nil]); first | done | rfl | (simp only [List.length_drop, List.length_take]; rfl)) ?_; (with_reducible refine (num_floor.calls a0 x8_2 t155 _ A12.out).mono ?_); rintro e w' ⟨rfl, ⟨nd, rfl⟩⟩; refine ⟨_, rfl, ?_⟩; have p32 : 0 ≤ (a2 : Int) := of_decide_eq_true (by first | (with_reducible assumption) | assumption); have q32 : a2 < (5 : Int) := of_decide_eq_true (by first | (with_reducible assumption) | assumption); have hx32 : ∀ w_ : World, (Instr.index 80 (.agg #[.bool false, .bool (decide (a0 > 0)), .bool (decide (a0 < 0)), .bool true, .bool false]) (.int .i64 a2)).run Tryz.prog w_ = .ok (.bool (rdOf false ([false, decide (a0 > 0), decide (a0 < 0), true, false] : List Bool) a2)) w_ := fun w_ => Go.Proofs.YtnpcmgajplikbaaGreatDoor.X.run_index_array 80 4 5 _ _ _ _ (by kernel_rfl) (by kernel_rfl) (by kernel_rfl) p32 q32 (Go.Proofs.YtnpcmgajplikbaaGreatDoor.X.at_bools ([false, decide (a0 > 0), decide (a0 < 0), true, false] : List Bool) a2 q32 p32); (try rw [← Nbq33.out] at hx32); replace p32 := eq_true p32; replace q32 := eq_true q32) | ((with_reducible refine gate_callee (f := 76) rfl ?_); refine goesL_ (some 77) rfl rfl Tryz.func76 (by kernel_rfl) rfl #[.int .i64 (wrap64 (a0 - (wrap64 (a0 - (wrap64 (t155 * x8_2))))))] rfl (by (try simp only [List.map_toArray, List.map_cons, List.map_nil]); first | done | rfl | (simp only [List.length_drop, List.length_take]; rfl)) ?_; (with_reducible refine (num_told.calls (wrap64 (a0 - (wrap64 (a0 - (wrap64 (t155 * x8_2)))))) t166 t167 _ A36.out).mono ?_); rintro e w' ⟨rfl, ⟨nd, rfl⟩⟩; refine ⟨_, rfl, ?_⟩))
                          go_ret2
                          exact ⟨by first | rfl | (simp; done) | (simp [*]; done) | (simp [Go.Proofs.YtnpcmgajplikbaaGreatDoor.X.bne_nil]; done), by repeat (first | exact Drawn0.refl _ | apply Drawn0.step)⟩
                      · rw [if_neg c31] at H
                        exact absurd H (by simp)
                    · rw [if_neg c30] at H
                      exact absurd H (by simp)

/-! ### octavoref05_Digits: function 131 -/
def octavoref05_Digits.l0 : Nat → Int → ByteArray → Option (ByteArray)
  | 0, _, _ => none
  | k + 1, x0, x3 => (some (([(IntKind.u64.wrap (48 + (Int.tmod x0 10))) % 256] : List Int) : List Int)).bind fun y168 => (if (strOfNums y168).size + x3.size ≤ 9223372036854775807 then (if (IntKind.u64.wrap (Int.tdiv x0 10)) = 0 then (some ((strOfNums y168) ++ x3)) else (octavoref05_Digits.l0 k (IntKind.u64.wrap (Int.tdiv x0 10)) ((strOfNums y168) ++ x3))) else (none))
def octavoref05_Digits.f (k : Nat) (a0 : Int) : Option (ByteArray) := octavoref05_Digits.l0 k a0 (⟨#[]⟩ : ByteArray)
theorem octavoref05_Digits.mono_l : ∀ k, (∀ y0 y1, LeO (octavoref05_Digits.l0 k y0 y1) (octavoref05_Digits.l0 (k + 1) y0 y1))
  | 0 => fun _ _ r h => by simp [octavoref05_Digits.l0] at h
  | k + 1 => by
    have ih0 := octavoref05_Digits.mono_l k
    · intro y0 y1
      unfold octavoref05_Digits.l0
      repeat' first
      | (with_reducible exact ih0 _ _)
      | (with_reducible exact LeO.refl _)
      | (with_reducible exact LeO.none _)
      | (with_reducible refine LeO.ite ?_ ?_)
      | (with_reducible refine LeO.bind ?_ (fun _ => ?_))
      | exact ih0 _ _
      | exact LeO.none _
      | refine LeO.ite ?_ ?_
      | refine LeO.bind ?_ (fun _ => ?_)
theorem octavoref05_Digits.mono : ∀ a0 k, LeO (octavoref05_Digits.f k a0) (octavoref05_Digits.f (k + 1) a0) := by
  intro a0 k
  have ih0 := octavoref05_Digits.mono_l k
  unfold octavoref05_Digits.f
  repeat' first
      | (with_reducible exact ih0 _ _)
      | (with_reducible exact LeO.refl _)
      | (with_reducible exact LeO.none _)
      | (with_reducible refine LeO.ite ?_ ?_)
      | (with_reducible refine LeO.bind ?_ (fun _ => ?_))
      | exact ih0 _ _
      | exact LeO.none _
      | refine LeO.ite ?_ ?_
      | refine LeO.bind ?_ (fun _ => ?_)
set_option maxHeartbeats 8000000 in
set_option maxRecDepth 100000 in
theorem octavoref05_Digits.calls (k : Nat) (a0 : Int) (r : ByteArray) (w : World) (h : octavoref05_Digits.f k a0 = some r) :
    Calls Tryz.prog 131 #[.int .u64 a0] w fun e w' => e = .returned (.string r) ∧ Below w.heap.size w w' := by
  have HB := Aside0.mk (Below.refl w.heap.size w)
  have H : (octavoref05_Digits.l0 k a0 (⟨#[]⟩ : ByteArray)) = some r := h
  clear h
  have H' := Aside0.mk H
  clear H
  go_enter Tryz.func131, Tryz.ntmps131
  go_wp2
  go_loopg [0, 3] k (fun kq v0 v3 w' => ∃ (x0_1 : Int) (x3_1 : ByteArray), v0 = .int .u64 x0_1 ∧ v3 = .string x3_1 ∧ Aside0 (octavoref05_Digits.l0 kq x0_1 x3_1 = some r) ∧ Aside0 (kq ≤ k) ∧ Aside0 (Below w.heap.size w w'))
  case atStart => exact ⟨(a0), ((⟨#[]⟩ : ByteArray)), (by first | rfl | (simp; done) | (simp [*]; done) | (simp [Go.Proofs.YtnpcmgajplikbaaGreatDoor.X.bne_nil]; done)), (by first | rfl | (simp; done) | (simp [*]; done) | (simp [Go.Proofs.YtnpcmgajplikbaaGreatDoor.X.bne_nil]; done)), H', ⟨Nat.le_refl _⟩, ⟨by repeat (first | (with_reducible first | exact HB.out | apply below_alloc | apply pw_below_drewN | apply below_drew1) | exact HB.out)⟩⟩
  case round =>
    clear H'
    try clear c1
    obtain ⟨x0_1, x3_1, rfl, rfl, HA, HK1, HB⟩ := hrel
    cases gk with
    | zero => exact absurd HA.out (by simp [octavoref05_Digits.l0])
    | succ k1 =>
      have H := HA.out
      clear HA
      simp only [octavoref05_Digits.l0] at H
      obtain ⟨y168, hy168⟩ : ∃ y_ : List Int, y_ = (([(IntKind.u64.wrap (48 + (Int.tmod x0_1 10))) % 256] : List Int)) := ⟨_, rfl⟩
      replace H : (if (strOfNums y168).size + x3_1.size ≤ 9223372036854775807 then (if (IntKind.u64.wrap (Int.tdiv x0_1 10)) = 0 then (some ((strOfNums y168) ++ x3_1)) else (octavoref05_Digits.l0 k1 (IntKind.u64.wrap (Int.tdiv x0_1 10)) ((strOfNums y168) ++ x3_1))) else (none)) = some r := by first | (rw [hy168]; with_reducible exact H) | (have H2_ := (Option.bind_some _ _).symm.trans H; rw [hy168]; with_reducible exact H2_) | (have H2_ := (Option.bind_some _ _).symm.trans H; with_reducible exact H2_) | with_reducible exact H | (rw [hy168]; exact H) | exact H
      have Ny168 := Aside0.mk hy168
      clear hy168
      by_cases c2 : (strOfNums y168).size + x3_1.size ≤ 9223372036854775807
      · rw [if_pos c2] at H
        have c2b0 := eq_true c2
        have c2b1 : decide ((strOfNums y168).size + x3_1.size ≤ 9223372036854775807) = true := decide_eq_true c2
        try have c2b2 : (9223372036854775807 < (strOfNums y168).size + x3_1.size) = False := eq_false (Nat.not_lt.2 c2)
        by_cases c3 : (IntKind.u64.wrap (Int.tdiv x0_1 10)) = 0
        · rw [if_pos c3] at H
          have c3b0 : ((IntKind.u64.wrap (Int.tdiv x0_1 10)) == 0) = true := beq_iff_eq.mpr c3
          have c3b1 : ((IntKind.u64.wrap (Int.tdiv x0_1 10)) != 0) = false := bne_eq_false_iff_eq.mpr c3
          clear c3
          obtain rfl := Option.some.inj H
          go_wp2_with (first | ((with_reducible refine gate_dst (N := 8) rfl ?_); refine Kd.R_lit (Kd.int .u8) _ 5 ?hg (N := 8) ?hd (xs := ([(IntKind.u64.wrap (48 + (Int.tmod x0_1 10))) % 256] : List Int)) (inner := [.int .u8 ((IntKind.u64.wrap (48 + (Int.tmod x0_1 10))) % 256)]) (ok := fun _ => True) (okp := fun _ => True) ?hr ?hp (fun _ hk => hk) trivial (Below.refl _ _) (Nat.le_refl _) (by simp) ?_; (case hd => rfl); (case hg => rfl); (case hr => first | (go_simp; done) | (go_simp; rfl)); (case hp => exact (Reps.one (show Kd.M (Kd.int .u8) _ _ _ ((IntKind.u64.wrap (48 + (Int.tmod x0_1 10))) % 256) [.int .u8 ((IntKind.u64.wrap (48 + (Int.tmod x0_1 10))) % 256)] from rfl) (Reps.none _ _))); intro v169 w4 ho5 hb hg_ hnew_; clear hg_ hnew_; (first | rw [← Ny168.out] at ho5 | (simp only [Int.reduceToNat] at ho5; rw [← Ny168.out] at ho5)); have n0_ := Aside0.mk (Kd.R_lower ho5 (below_size (by repeat (first | (with_reducible first | exact HB.out | apply below_alloc | apply pw_below_drewN | apply below_drew1) | exact HB.out)))); have n1_ := Aside0.mk (below_step (by repeat (first | (with_reducible first | exact HB.out | apply below_alloc | apply pw_below_drewN | apply below_drew1) | exact HB.out)) hb); clear HB; have HO170 := n0_; have HB := n1_; clear n0_ n1_; clear hb ho5; have hcv6 := own_string (P := Tryz.prog) Tryz.underlying90 Tryz.underlying5 Tryz.underlying9 (Kd.own_of_R HO170.out)))
          go_ret
          exact ⟨by first | rfl | (simp [errW_none, errW_some] <;> rfl) | (simp [*, errW_none, errW_some] <;> rfl), by repeat (first | (with_reducible first | exact HB.out | apply below_alloc | apply pw_below_drewN | apply below_drew1) | exact HB.out)⟩
        · rw [if_neg c3] at H
          have c3b0 : ((IntKind.u64.wrap (Int.tdiv x0_1 10)) == 0) = false := beq_eq_false_iff_ne.mpr c3
          have c3b1 : ((IntKind.u64.wrap (Int.tdiv x0_1 10)) != 0) = true := bne_iff_ne.mpr c3
          have H' := Aside0.mk H
          clear H
          go_wp2_with (first | ((with_reducible refine gate_dst (N := 8) rfl ?_); refine Kd.R_lit (Kd.int .u8) _ 5 ?hg (N := 8) ?hd (xs := ([(IntKind.u64.wrap (48 + (Int.tmod x0_1 10))) % 256] : List Int)) (inner := [.int .u8 ((IntKind.u64.wrap (48 + (Int.tmod x0_1 10))) % 256)]) (ok := fun _ => True) (okp := fun _ => True) ?hr ?hp (fun _ hk => hk) trivial (Below.refl _ _) (Nat.le_refl _) (by simp) ?_; (case hd => rfl); (case hg => rfl); (case hr => first | (go_simp; done) | (go_simp; rfl)); (case hp => exact (Reps.one (show Kd.M (Kd.int .u8) _ _ _ ((IntKind.u64.wrap (48 + (Int.tmod x0_1 10))) % 256) [.int .u8 ((IntKind.u64.wrap (48 + (Int.tmod x0_1 10))) % 256)] from rfl) (Reps.none _ _))); intro v169 w7 ho8 hb hg_ hnew_; clear hg_ hnew_; (first | rw [← Ny168.out] at ho8 | (simp only [Int.reduceToNat] at ho8; rw [← Ny168.out] at ho8)); have n0_ := Aside0.mk (Kd.R_lower ho8 (below_size (by repeat (first | (with_reducible first | exact HB.out | apply below_alloc | apply pw_below_drewN | apply below_drew1) | exact HB.out)))); have n1_ := Aside0.mk (below_step (by repeat (first | (with_reducible first | exact HB.out | apply below_alloc | apply pw_below_drewN | apply below_drew1) | exact HB.out)) hb); clear HB; have HO170 := n0_; have HB := n1_; clear n0_ n1_; clear hb ho8; have hcv9 := own_string (P := Tryz.prog) Tryz.underlying90 Tryz.underlying5 Tryz.underlying9 (Kd.own_of_R HO170.out)))
          go_roundg k1
          case measure => have := HK1.out; omega
          case rel => exact ⟨(IntKind.u64.wrap (Int.tdiv x0_1 10)), ((strOfNums y168) ++ x3_1), (by first | rfl | (simp; done) | (simp [*]; done) | (simp [Go.Proofs.YtnpcmgajplikbaaGreatDoor.X.bne_nil]; done)), (by first | rfl | (simp; done) | (simp [*]; done) | (simp [Go.Proofs.YtnpcmgajplikbaaGreatDoor.X.bne_nil]; done)), H', ⟨by have := HK1.out; omega⟩, ⟨by repeat (first | (with_reducible first | exact HB.out | apply below_alloc | apply pw_below_drewN | apply below_drew1) | exact HB.out)⟩⟩
      · rw [if_neg c2] at H
        exact absurd H (by simp)

end Go.Proofs.YtnpcmgajplikbaaGreatDoor.P
