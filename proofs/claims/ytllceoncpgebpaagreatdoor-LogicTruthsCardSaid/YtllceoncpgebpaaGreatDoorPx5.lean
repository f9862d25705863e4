-- Written by a program of this session (wip/tools/xprint.py), out of the seat's translation. Not trusted: Lean checks it.
import Derived.Test.YtllceoncpgebpaaGreatDoorPx0
import Derived.Test.YtllceoncpgebpaaGreatDoorPx3
import Derived.Test.YtllceoncpgebpaaGreatDoorPx4
namespace Go.Proofs.YtllceoncpgebpaaGreatDoor.P
open Go.RowKit Go.Proofs.YtllceoncpgebpaaGreatDoorW.PrintWords Go.Proofs.YtllceoncpgebpaaGreatDoorW.PrintLast Go.Proofs.YtllceoncpgebpaaGreatDoorW.PrintMore
attribute [local go_sem] max2_int min2_int max_two min_two max_three min_three max_four min_four X.binOp_str_gtr X.binOp_str_leq   -- for this text's walks alone
set_option linter.unusedVariables false
set_option linter.unusedSimpArgs false

/-! ### value_Upper: function 116 -/
def value_Upper.f (a0 : ByteArray) : Option (ByteArray) := if a0.size ≤ 9223372036854775807 then some (X.mapS X.gUpper a0) else none
set_option maxRecDepth 100000 in
theorem value_Upper.one (c : Int) (w : World) (h0 : 0 ≤ c) (h1 : c ≤ 255) : Calls Tryz.prog 133 #[.int .u8 c] w fun e w' => e = .returned (.int .u8 (X.gUpper c)) ∧ w = w' := by
  unfold X.gUpper
  by_cases c0 : 97 ≤ c
  · have c0b : decide (c ≥ 97) = true := decide_eq_true c0
    by_cases c1 : c ≤ 122
    · have c1b : decide (c ≤ 122) = true := decide_eq_true c1
      rw [if_pos ⟨c0, c1⟩]
      go_enter Tryz.func133, Tryz.ntmps133
      go_wp2
      go_ret
      exact ⟨by rw [show c - 32 = c - 97 + 65 by omega]; rfl, rfl⟩
    · have c1b : decide (c ≤ 122) = false := decide_eq_false c1
      rw [if_neg (fun h => c1 h.2)]
      go_enter Tryz.func133, Tryz.ntmps133
      go_wp2
      go_ret
      exact ⟨rfl, rfl⟩
  · have c0b : decide (c ≥ 97) = false := decide_eq_false c0
    rw [if_neg (fun h => c0 h.1)]
    go_enter Tryz.func133, Tryz.ntmps133
    go_wp2
    go_ret
    exact ⟨rfl, rfl⟩
theorem value_Upper.calls (a0 : ByteArray) (r : ByteArray) (w : World) (h : value_Upper.f a0 = some r) :
    Calls Tryz.prog 116 #[.string a0] w fun e w' => e = .returned (.string r) ∧ Below w.heap.size w w' := by
  unfold value_Upper.f at h
  by_cases c0 : a0.size ≤ 9223372036854775807
  · rw [if_pos c0] at h
    have H0 := Aside0.mk c0
    clear c0
    obtain rfl := Option.some.inj h
    have HM := value_mapped.callsUpper X.gUpper (value_Upper.one) a0 H0.out
    go_enter Tryz.func116, Tryz.ntmps116
    go_wp2_with (go_at_call 132; refine (HM _).mono ?_; rintro e w1 ⟨rfl, hb⟩)
    go_ret
    exact ⟨rfl, hb⟩
  · rw [if_neg c0] at h
    cases h
/-! ### value_word: function 79 -/
def value_word.f (a0 : ByteArray) : Option (Bool × Bool) := (value_Upper.f a0).bind fun t151 => (if t151.toList = ([84, 82, 85, 69] : List UInt8) then (some (true, true)) else (if t151.toList = ([70, 65, 76, 83, 69] : List UInt8) then (some (false, true)) else (some (false, false))))
set_option maxHeartbeats 8000000 in
set_option maxRecDepth 100000 in
theorem value_word.calls (a0 : ByteArray) (r1 : Bool) (r2 : Bool) (w : World) (h : value_word.f a0 = some (r1, r2)) :
    Calls Tryz.prog 79 #[.string a0] w fun e w' => e = .returned (.tuple #[.bool r1, .bool r2]) ∧ Below w.heap.size w w' := by
  have HB := Aside0.mk (Below.refl w.heap.size w)
  have H : ((value_Upper.f a0).bind fun t151 => (if t151.toList = ([84, 82, 85, 69] : List UInt8) then (some (true, true)) else (if t151.toList = ([70, 65, 76, 83, 69] : List UInt8) then (some (false, true)) else (some (false, false))))) = some (r1, r2) := h
  clear h
  replace H := Option.bind_eq_some_iff.mp H
  obtain ⟨t151, A20, H⟩ := H
  replace H : (if t151.toList = ([84, 82, 85, 69] : List UInt8) then (some (true, true)) else (if t151.toList = ([70, 65, 76, 83, 69] : List UInt8) then (some (false, true)) else (some (false, false)))) = some (r1, r2) := H
  have A2 := Aside0.mk A20
  clear A20
  by_cases c3 : t151.toList = ([84, 82, 85, 69] : List UInt8)
  · rw [if_pos c3] at H
    have c3b0 : (t151.toList == ([84, 82, 85, 69] : List UInt8)) = true := beq_iff_eq.mpr c3
    have c3b1 : (t151.toList != ([84, 82, 85, 69] : List UInt8)) = false := bne_eq_false_iff_eq.mpr c3
    clear c3
    simp only [Option.some.injEq, Prod.mk.injEq] at H
    obtain ⟨rfl, rfl⟩ := H
    go_enter Tryz.func79, Tryz.ntmps79
    go_wp2_with (first | ((with_reducible refine gate_callee (f := 116) rfl ?_); refine goesL_ (some 5) rfl rfl Tryz.func116 (by kernel_rfl) rfl #[.string a0] rfl (by (try simp only [List.map_toArray, List.map_cons, List.map_nil]); first | done | rfl | (simp only [List.length_drop, List.length_take]; rfl)) ?_; (with_reducible refine (value_Upper.calls a0 t151 _ A2.out).mono ?_); rintro e w4 ⟨rfl, hb⟩; refine ⟨_, rfl, ?_⟩; have n0_ := Aside0.mk (below_step (by repeat (first | (with_reducible first | exact HB.out | apply below_alloc | apply pw_below_drewN | apply below_drew1) | exact HB.out)) hb); clear HB; have HB := n0_; clear n0_; (try clear hb); (try clear hb2); (try clear hk); (try clear hi)))
    go_ret2
    exact ⟨by first | rfl | (simp [errW_none, errW_some] <;> rfl) | (simp [*, errW_none, errW_some] <;> rfl), by repeat (first | (with_reducible first | exact HB.out | apply below_alloc | apply pw_below_drewN | apply below_drew1) | exact HB.out)⟩
  · rw [if_neg c3] at H
    have c3b0 : (t151.toList == ([84, 82, 85, 69] : List UInt8)) = false := beq_eq_false_iff_ne.mpr c3
    have c3b1 : (t151.toList != ([84, 82, 85, 69] : List UInt8)) = true := bne_iff_ne.mpr c3
    by_cases c5 : t151.toList = ([70, 65, 76, 83, 69] : List UInt8)
    · rw [if_pos c5] at H
      have c5b0 : (t151.toList == ([70, 65, 76, 83, 69] : List UInt8)) = true := beq_iff_eq.mpr c5
      have c5b1 : (t151.toList != ([70, 65, 76, 83, 69] : List UInt8)) = false := bne_eq_false_iff_eq.mpr c5
      clear c5
      simp only [Option.some.injEq, Prod.mk.injEq] at H
      obtain ⟨rfl, rfl⟩ := H
      go_enter Tryz.func79, Tryz.ntmps79
      go_wp2_with (first | ((with_reducible refine gate_callee (f := 116) rfl ?_); refine goesL_ (some 5) rfl rfl Tryz.func116 (by kernel_rfl) rfl #[.string a0] rfl (by (try simp only [List.map_toArray, List.map_cons, List.map_nil]); first | done | rfl | (simp only [List.length_drop, List.length_take]; rfl)) ?_; (with_reducible refine (value_Upper.calls a0 t151 _ A2.out).mono ?_); rintro e w6 ⟨rfl, hb⟩; refine ⟨_, rfl, ?_⟩; have n0_ := Aside0.mk (below_step (by repeat (first | (with_reducible first | exact HB.out | apply below_alloc | apply pw_below_drewN | apply below_drew1) | exact HB.out)) hb); clear HB; have HB := n0_; clear n0_; (try clear hb); (try clear hb2); (try clear hk); (try clear hi)))
      go_ret2
      exact ⟨by first | rfl | (simp [errW_none, errW_some] <;> rfl) | (simp [*, errW_none, errW_some] <;> rfl), by repeat (first | (with_reducible first | exact HB.out | apply below_alloc | apply pw_below_drewN | apply below_drew1) | exact HB.out)⟩
    · rw [if_neg c5] at H
      have c5b0 : (t151.toList == ([70, 65, 76, 83, 69] : List UInt8)) = false := beq_eq_false_iff_ne.mpr c5
      have c5b1 : (t151.toList != ([70, 65, 76, 83, 69] : List UInt8)) = true := bne_iff_ne.mpr c5
      simp only [Option.some.injEq, Prod.mk.injEq] at H
      obtain ⟨rfl, rfl⟩ := H
      go_enter Tryz.func79, Tryz.ntmps79
      go_wp2_with (first | ((with_reducible refine gate_callee (f := 116) rfl ?_); refine goesL_ (some 5) rfl rfl Tryz.func116 (by kernel_rfl) rfl #[.string a0] rfl (by (try simp only [List.map_toArray, List.map_cons, List.map_nil]); first | done | rfl | (simp only [List.length_drop, List.length_take]; rfl)) ?_; (with_reducible refine (value_Upper.calls a0 t151 _ A2.out).mono ?_); rintro e w7 ⟨rfl, hb⟩; refine ⟨_, rfl, ?_⟩; have n0_ := Aside0.mk (below_step (by repeat (first | (with_reducible first | exact HB.out | apply below_alloc | apply pw_below_drewN | apply below_drew1) | exact HB.out)) hb); clear HB; have HB := n0_; clear n0_; (try clear hb); (try clear hb2); (try clear hk); (try clear hi)))
      go_ret2
      exact ⟨by first | rfl | (simp [errW_none, errW_some] <;> rfl) | (simp [*, errW_none, errW_some] <;> rfl), by repeat (first | (with_reducible first | exact HB.out | apply below_alloc | apply pw_below_drewN | apply below_drew1) | exact HB.out)⟩

/-! ### value_ToBool: function 43 -/
def value_ToBool.f (a0_0 : Int) (a0_1 : Int) (a0_2 : ByteArray) : Option (Bool × Int) := if a0_0 = 0 then (some (false, 0)) else (if a0_0 = 1 then (some ((a0_1 != 0), 0)) else (if a0_0 = 2 then ((value_word.f a0_2).bind fun bq => (if bq.2 = true then (some (bq.1, 0)) else (some (false, 2)))) else (if a0_0 = 3 then (some ((a0_1 != 0), 0)) else (if a0_0 = 4 then (some (false, a0_1)) else (some (false, 2))))))
set_option maxHeartbeats 8000000 in
set_option maxRecDepth 100000 in
theorem value_ToBool.calls (a0_0 : Int) (a0_1 : Int) (a0_2 : ByteArray) (r1 : Bool) (r2 : Int) (w : World) (h : value_ToBool.f a0_0 a0_1 a0_2 = some (r1, r2)) :
    Calls Tryz.prog 43 #[.agg #[.int .i64 a0_0, .int .i64 a0_1, .string a0_2]] w fun e w' => e = .returned (.tuple #[.bool r1, .int .i64 r2]) ∧ Below w.heap.size w w' := by
  unfold value_ToBool.f at h
  have hu := Tryz.underlying26
  have hub := Tryz.underlying88
  by_cases c0 : a0_0 = 0
  · subst c0
    rw [if_pos rfl] at h
    simp only [Option.some.injEq, Prod.mk.injEq] at h
    obtain ⟨rfl, rfl⟩ := h
    obtain ⟨ta0, ta1, ta2, ta3, ta4⟩ := value_own.ta0
    go_enter Tryz.func43, Tryz.ntmps43
    go_wp2_with (first | (go_at_call 78; refine (value_own.k0 _ _ _).mono ?_; rintro e w1 ⟨rfl, hb⟩; obtain ⟨hc, hb1, hz⟩ := value_own.kept hb; clear hb; have hc0 := hc 0; have hc1 := hc 1; have hc2 := hc 2; clear hc; simp only [List.getElem?_toArray, List.getElem?_cons_zero, List.getElem?_cons_succ] at hc0 hc1 hc2))
    go_ret2
    exact ⟨rfl, by repeat (first | exact hb1 | exact hb1.trans (hq.mono hb1.size) | exact (Below.refl _ _).alloc (Nat.le_refl _) _ | refine Below.alloc ?_ (by first | exact hb1.size | exact (hb1.trans (hq.mono hb1.size)).size) _)⟩
  rw [if_neg c0] at h
  by_cases c1 : a0_0 = 1
  · subst c1
    rw [if_pos rfl] at h
    simp only [Option.some.injEq, Prod.mk.injEq] at h
    obtain ⟨rfl, rfl⟩ := h
    obtain ⟨ta0, ta1, ta2, ta3, ta4⟩ := value_own.ta1
    go_enter Tryz.func43, Tryz.ntmps43
    go_wp2_with (first | (go_at_call 78; refine (value_own.k1 _ _ _).mono ?_; rintro e w1 ⟨rfl, hb⟩; obtain ⟨hc, hb1, hz⟩ := value_own.kept hb; clear hb; have hc0 := hc 0; have hc1 := hc 1; have hc2 := hc 2; clear hc; simp only [List.getElem?_toArray, List.getElem?_cons_zero, List.getElem?_cons_succ] at hc0 hc1 hc2))
    go_ret2
    exact ⟨rfl, by repeat (first | exact hb1 | exact hb1.trans (hq.mono hb1.size) | exact (Below.refl _ _).alloc (Nat.le_refl _) _ | refine Below.alloc ?_ (by first | exact hb1.size | exact (hb1.trans (hq.mono hb1.size)).size) _)⟩
  rw [if_neg c1] at h
  by_cases c2 : a0_0 = 2
  · subst c2
    rw [if_pos rfl] at h
    obtain ⟨⟨t, b⟩, hp1, h⟩ := Option.bind_eq_some_iff.mp h
    have Hhp1 := Aside0.mk hp1
    clear hp1
    cases b with
    | true =>
      rw [if_pos rfl] at h
      simp only [Option.some.injEq, Prod.mk.injEq] at h
      obtain ⟨rfl, rfl⟩ := h
      obtain ⟨ta0, ta1, ta2, ta3, ta4⟩ := value_own.ta2
      go_enter Tryz.func43, Tryz.ntmps43
      go_wp2_with (first | (go_at_call 78; refine (value_own.k2 _ _ _).mono ?_; rintro e w1 ⟨rfl, hb⟩; obtain ⟨hc, hb1, hz⟩ := value_own.kept hb; clear hb; have hc0 := hc 0; have hc1 := hc 1; have hc2 := hc 2; clear hc; simp only [List.getElem?_toArray, List.getElem?_cons_zero, List.getElem?_cons_succ] at hc0 hc1 hc2) | (go_at_call 79; refine (value_word.calls _  _ _ _ Hhp1.out).mono ?_; rintro e w2 ⟨rfl, hq⟩))
      go_ret2
      exact ⟨rfl, by repeat (first | exact hb1 | exact hb1.trans (hq.mono hb1.size) | exact (Below.refl _ _).alloc (Nat.le_refl _) _ | refine Below.alloc ?_ (by first | exact hb1.size | exact (hb1.trans (hq.mono hb1.size)).size) _)⟩
    | false =>
      rw [if_neg Bool.false_ne_true] at h
      simp only [Option.some.injEq, Prod.mk.injEq] at h
      obtain ⟨rfl, rfl⟩ := h
      obtain ⟨ta0, ta1, ta2, ta3, ta4⟩ := value_own.ta2
      go_enter Tryz.func43, Tryz.ntmps43
      go_wp2_with (first | (go_at_call 78; refine (value_own.k2 _ _ _).mono ?_; rintro e w1 ⟨rfl, hb⟩; obtain ⟨hc, hb1, hz⟩ := value_own.kept hb; clear hb; have hc0 := hc 0; have hc1 := hc 1; have hc2 := hc 2; clear hc; simp only [List.getElem?_toArray, List.getElem?_cons_zero, List.getElem?_cons_succ] at hc0 hc1 hc2) | (go_at_call 79; refine (value_word.calls _  _ _ _ Hhp1.out).mono ?_; rintro e w2 ⟨rfl, hq⟩))
      go_ret2
      exact ⟨rfl, by repeat (first | exact hb1 | exact hb1.trans (hq.mono hb1.size) | exact (Below.refl _ _).alloc (Nat.le_refl _) _ | refine Below.alloc ?_ (by first | exact hb1.size | exact (hb1.trans (hq.mono hb1.size)).size) _)⟩
  rw [if_neg c2] at h
  by_cases c3 : a0_0 = 3
  · subst c3
    rw [if_pos rfl] at h
    simp only [Option.some.injEq, Prod.mk.injEq] at h
    obtain ⟨rfl, rfl⟩ := h
    obtain ⟨ta0, ta1, ta2, ta3, ta4⟩ := value_own.ta3
    go_enter Tryz.func43, Tryz.ntmps43
    go_wp2_with (first | (go_at_call 78; refine (value_own.k3 _ _ _).mono ?_; rintro e w1 ⟨rfl, hb⟩; obtain ⟨hc, hb1, hz⟩ := value_own.kept hb; clear hb; have hc0 := hc 0; have hc1 := hc 1; have hc2 := hc 2; clear hc; simp only [List.getElem?_toArray, List.getElem?_cons_zero, List.getElem?_cons_succ] at hc0 hc1 hc2))
    go_ret2
    exact ⟨rfl, by repeat (first | exact hb1 | exact hb1.trans (hq.mono hb1.size) | exact (Below.refl _ _).alloc (Nat.le_refl _) _ | refine Below.alloc ?_ (by first | exact hb1.size | exact (hb1.trans (hq.mono hb1.size)).size) _)⟩
  rw [if_neg c3] at h
  by_cases c4 : a0_0 = 4
  · subst c4
    rw [if_pos rfl] at h
    simp only [Option.some.injEq, Prod.mk.injEq] at h
    obtain ⟨rfl, rfl⟩ := h
    obtain ⟨ta0, ta1, ta2, ta3, ta4⟩ := value_own.ta4
    go_enter Tryz.func43, Tryz.ntmps43
    go_wp2_with (first | (go_at_call 78; refine (value_own.k4 _ _ _).mono ?_; rintro e w1 ⟨rfl, hb⟩; obtain ⟨hc, hb1, hz⟩ := value_own.kept hb; clear hb; have hc0 := hc 0; have hc1 := hc 1; have hc2 := hc 2; clear hc; simp only [List.getElem?_toArray, List.getElem?_cons_zero, List.getElem?_cons_succ] at hc0 hc1 hc2))
    go_ret2
    exact ⟨rfl, by repeat (first | exact hb1 | exact hb1.trans (hq.mono hb1.size) | exact (Below.refl _ _).alloc (Nat.le_refl _) _ | refine Below.alloc ?_ (by first | exact hb1.size | exact (hb1.trans (hq.mono hb1.size)).size) _)⟩
  rw [if_neg c4] at h
  have HX := fun w => value_own.kx a0_0 a0_1 a0_2 (beq_eq_false_iff_ne.mpr c0) (beq_eq_false_iff_ne.mpr c1) (beq_eq_false_iff_ne.mpr c2) (beq_eq_false_iff_ne.mpr c3) (beq_eq_false_iff_ne.mpr c4) w
  have n2 : (a0_0 != 2) = true := bne_iff_ne.mpr c2
  clear c0 c1 c2 c3 c4
  simp only [Option.some.injEq, Prod.mk.injEq] at h
  obtain ⟨rfl, rfl⟩ := h
  obtain ⟨ta0, ta1, ta2, ta3, ta4⟩ := value_own.tax
  go_enter Tryz.func43, Tryz.ntmps43
  go_wp2_with (first | (go_at_call 78; refine (HX _).mono ?_; rintro e w1 ⟨rfl, hb⟩; obtain ⟨hc, hb1, hz⟩ := value_own.kept hb; clear hb; have hc0 := hc 0; have hc1 := hc 1; have hc2 := hc 2; clear hc; simp only [List.getElem?_toArray, List.getElem?_cons_zero, List.getElem?_cons_succ] at hc0 hc1 hc2))
  go_ret2
  exact ⟨rfl, by repeat (first | exact hb1 | exact hb1.trans (hq.mono hb1.size) | exact (Below.refl _ _).alloc (Nat.le_refl _) _ | refine Below.alloc ?_ (by first | exact hb1.size | exact (hb1.trans (hq.mono hb1.size)).size) _)⟩
/-! ### value_ToNum: function 81 -/
def value_ToNum.f (k : Nat) (a0_0 : Int) (a0_1 : Int) (a0_2 : ByteArray) : Option (Int × Int) := if a0_0 = 0 then (some (0, 0)) else (if a0_0 = 1 then (some (a0_1, 0)) else (if a0_0 = 3 then (if a0_1 = 0 then (some (0, 0)) else (some (10000, 0))) else (if a0_0 = 2 then ((num_Parse.f k a0_2).bind fun bt => (if bt.2 = true then (some (bt.1, 0)) else (some (0, 2)))) else (if a0_0 = 4 then (some (0, a0_1)) else (some (0, 2))))))
theorem value_ToNum.mono : ∀ a0 a1 a2 k, LeO (value_ToNum.f k a0 a1 a2) (value_ToNum.f (k + 1) a0 a1 a2) := by
  intro a0 a1 a2 k
  unfold value_ToNum.f
  repeat' first
      | (with_reducible exact num_Parse.mono _ _)
      | (with_reducible exact LeO.refl _)
      | (with_reducible exact LeO.none _)
      | (with_reducible refine LeO.ite ?_ ?_)
      | (with_reducible refine LeO.bind ?_ (fun _ => ?_))
set_option maxHeartbeats 8000000 in
set_option maxRecDepth 100000 in
theorem value_ToNum.calls (k : Nat) (a0_0 : Int) (a0_1 : Int) (a0_2 : ByteArray) (r1 : Int) (r2 : Int) (w : World) (h : value_ToNum.f k a0_0 a0_1 a0_2 = some (r1, r2)) :
    Calls Tryz.prog 81 #[.agg #[.int .i64 a0_0, .int .i64 a0_1, .string a0_2]] w fun e w' => e = .returned (.tuple #[.int .i64 r1, .int .i64 r2]) ∧ Below w.heap.size w w' := by
  unfold value_ToNum.f at h
  have hu := Tryz.underlying26
  have hub := Tryz.underlying88
  by_cases c0 : a0_0 = 0
  · subst c0
    rw [if_pos rfl] at h
    simp only [Option.some.injEq, Prod.mk.injEq] at h
    obtain ⟨rfl, rfl⟩ := h
    obtain ⟨ta0, ta1, ta2, ta3, ta4⟩ := value_own.ta0
    go_enter Tryz.func81, Tryz.ntmps81
    go_wp2_with (go_at_call 78; refine (value_own.k0 _ _ _).mono ?_; rintro e w1 ⟨rfl, hb⟩; obtain ⟨hc, hb1, hz⟩ := value_own.kept hb; clear hb)
    go_ret2
    exact ⟨rfl, hb1.alloc hb1.size _⟩
  rw [if_neg c0] at h
  by_cases c1 : a0_0 = 1
  · subst c1
    rw [if_pos rfl] at h
    simp only [Option.some.injEq, Prod.mk.injEq] at h
    obtain ⟨rfl, rfl⟩ := h
    obtain ⟨ta0, ta1, ta2, ta3, ta4⟩ := value_own.ta1
    go_enter Tryz.func81, Tryz.ntmps81
    go_wp2_with (go_at_call 78; refine (value_own.k1 _ _ _).mono ?_; rintro e w1 ⟨rfl, hb⟩; obtain ⟨hc, hb1, hz⟩ := value_own.kept hb; clear hb)
    go_ret2
    exact ⟨rfl, hb1⟩
  rw [if_neg c1] at h
  by_cases c3 : a0_0 = 3
  · subst c3
    rw [if_pos rfl] at h
    by_cases d : a0_1 = 0
    · rw [if_pos d] at h
      have d0 : (a0_1 != 0) = false := bne_eq_false_iff_eq.mpr d
      clear d
      simp only [Option.some.injEq, Prod.mk.injEq] at h
      obtain ⟨rfl, rfl⟩ := h
      obtain ⟨ta0, ta1, ta2, ta3, ta4⟩ := value_own.ta3
      go_enter Tryz.func81, Tryz.ntmps81
      go_wp2_with (go_at_call 78; refine (value_own.k3 _ _ _).mono ?_; rintro e w1 ⟨rfl, hb⟩; obtain ⟨hc, hb1, hz⟩ := value_own.kept hb; clear hb)
      go_ret2
      exact ⟨rfl, hb1⟩
    · rw [if_neg d] at h
      have d0 : (a0_1 != 0) = true := bne_iff_ne.mpr d
      clear d
      simp only [Option.some.injEq, Prod.mk.injEq] at h
      obtain ⟨rfl, rfl⟩ := h
      obtain ⟨ta0, ta1, ta2, ta3, ta4⟩ := value_own.ta3
      go_enter Tryz.func81, Tryz.ntmps81
      go_wp2_with (go_at_call 78; refine (value_own.k3 _ _ _).mono ?_; rintro e w1 ⟨rfl, hb⟩; obtain ⟨hc, hb1, hz⟩ := value_own.kept hb; clear hb)
      go_ret2
      exact ⟨rfl, hb1⟩
  rw [if_neg c3] at h
  by_cases c2 : a0_0 = 2
  · subst c2
    rw [if_pos rfl] at h
    obtain ⟨⟨t, b⟩, hp, h⟩ := Option.bind_eq_some_iff.mp h
    have HP := Aside0.mk hp
    clear hp
    cases b with
    | true =>
      rw [if_pos rfl] at h
      simp only [Option.some.injEq, Prod.mk.injEq] at h
      obtain ⟨rfl, rfl⟩ := h
      obtain ⟨ta0, ta1, ta2, ta3, ta4⟩ := value_own.ta2
      go_enter Tryz.func81, Tryz.ntmps81
      go_wp2_with (first
        | (go_at_call 78; refine (value_own.k2 _ _ _).mono ?_; rintro e w1 ⟨rfl, hb⟩; obtain ⟨hc, hb1, hz⟩ := value_own.kept hb; clear hb)
        | (go_at_call 117; refine (num_Parse.calls _ _ _ _ _ HP.out).mono ?_; rintro e w2 ⟨rfl, hb2⟩))
      go_ret2
      exact ⟨rfl, hb1.trans (hb2.mono hb1.size)⟩
    | false =>
      rw [if_neg Bool.false_ne_true] at h
      simp only [Option.some.injEq, Prod.mk.injEq] at h
      obtain ⟨rfl, rfl⟩ := h
      obtain ⟨ta0, ta1, ta2, ta3, ta4⟩ := value_own.ta2
      go_enter Tryz.func81, Tryz.ntmps81
      go_wp2_with (first
        | (go_at_call 78; refine (value_own.k2 _ _ _).mono ?_; rintro e w1 ⟨rfl, hb⟩; obtain ⟨hc, hb1, hz⟩ := value_own.kept hb; clear hb)
        | (go_at_call 117; refine (num_Parse.calls _ _ _ _ _ HP.out).mono ?_; rintro e w2 ⟨rfl, hb2⟩))
      go_ret2
      exact ⟨rfl, hb1.trans (hb2.mono hb1.size)⟩
  rw [if_neg c2] at h
  by_cases c4 : a0_0 = 4
  · subst c4
    rw [if_pos rfl] at h
    simp only [Option.some.injEq, Prod.mk.injEq] at h
    obtain ⟨rfl, rfl⟩ := h
    obtain ⟨ta0, ta1, ta2, ta3, ta4⟩ := value_own.ta4
    go_enter Tryz.func81, Tryz.ntmps81
    go_wp2_with (go_at_call 78; refine (value_own.k4 _ _ _).mono ?_; rintro e w1 ⟨rfl, hb⟩; obtain ⟨hc, hb1, hz⟩ := value_own.kept hb; clear hb)
    go_ret2
    exact ⟨rfl, hb1⟩
  rw [if_neg c4] at h
  simp only [Option.some.injEq, Prod.mk.injEq] at h
  obtain ⟨rfl, rfl⟩ := h
  have HX := fun w => value_own.kx a0_0 a0_1 a0_2 (beq_eq_false_iff_ne.mpr c0) (beq_eq_false_iff_ne.mpr c1) (beq_eq_false_iff_ne.mpr c2) (beq_eq_false_iff_ne.mpr c3) (beq_eq_false_iff_ne.mpr c4) w
  clear c0 c1 c2 c3 c4
  obtain ⟨ta0, ta1, ta2, ta3, ta4⟩ := value_own.tax
  go_enter Tryz.func81, Tryz.ntmps81
  go_wp2_with (go_at_call 78; refine (HX _).mono ?_; rintro e w1 ⟨rfl, hb⟩; obtain ⟨hc, hb1, hz⟩ := value_own.kept hb; clear hb)
  go_ret2
  exact ⟨rfl, hb1⟩
end Go.Proofs.YtllceoncpgebpaaGreatDoor.P
