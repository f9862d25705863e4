-- Written by a program of this session (wip/tools/xprint.py), out of the seat's translation. Not trusted: Lean checks it.
import Derived.Test.YtllceoncpgebpaaGreatDoorPx0
import Derived.Test.YtllceoncpgebpaaGreatDoorPx5
namespace Go.Proofs.YtllceoncpgebpaaGreatDoor.P
open Go.RowKit Go.Proofs.YtllceoncpgebpaaGreatDoorW.PrintWords Go.Proofs.YtllceoncpgebpaaGreatDoorW.PrintLast Go.Proofs.YtllceoncpgebpaaGreatDoorW.PrintMore
attribute [local go_sem] max2_int min2_int max_two min_two max_three min_three max_four min_four X.binOp_str_gtr X.binOp_str_leq   -- for this text's walks alone
set_option linter.unusedVariables false
set_option linter.unusedSimpArgs false

/-! ### value_ToText: function 56 -/
def value_ToText.f (k : Nat) (a0_0 : Int) (a0_1 : Int) (a0_2 : ByteArray) : Option (ByteArray × Int) := if a0_0 = 0 then ((value_Text.f k 0 a0_1 a0_2).bind fun t => (some (t, 0))) else (if a0_0 = 1 then ((value_Text.f k 1 a0_1 a0_2).bind fun t => (some (t, 0))) else (if a0_0 = 2 then ((value_Text.f k 2 a0_1 a0_2).bind fun t => (some (t, 0))) else (if a0_0 = 3 then ((value_Text.f k 3 a0_1 a0_2).bind fun t => (some (t, 0))) else (if a0_0 = 4 then (some ((⟨#[]⟩ : ByteArray), a0_1)) else ((value_Text.f k a0_0 a0_1 a0_2).bind fun t => (some (t, 0)))))))
theorem value_ToText.mono : ∀ a0 a1 a2 k, LeO (value_ToText.f k a0 a1 a2) (value_ToText.f (k + 1) a0 a1 a2) := by
  intro a0 a1 a2 k
  unfold value_ToText.f
  repeat' first
      | (with_reducible exact value_Text.mono _ _ _ _)
      | (with_reducible exact LeO.refl _)
      | (with_reducible exact LeO.none _)
      | (with_reducible refine LeO.ite ?_ ?_)
      | (with_reducible refine LeO.bind ?_ (fun _ => ?_))
set_option maxHeartbeats 8000000 in
set_option maxRecDepth 100000 in
theorem value_ToText.calls (k : Nat) (a0_0 : Int) (a0_1 : Int) (a0_2 : ByteArray) (r1 : ByteArray) (r2 : Int) (w : World) (h : value_ToText.f k a0_0 a0_1 a0_2 = some (r1, r2)) :
    Calls Tryz.prog 56 #[.agg #[.int .i64 a0_0, .int .i64 a0_1, .string a0_2]] w fun e w' => e = .returned (.tuple #[.string r1, .int .i64 r2]) ∧ Below w.heap.size w w' := by
  unfold value_ToText.f at h
  have hu := Tryz.underlying26
  have hub := Tryz.underlying88
  by_cases c0 : a0_0 = 0
  · subst c0
    rw [if_pos rfl] at h
    obtain ⟨t, hp1, h⟩ := Option.bind_eq_some_iff.mp h
    have Hhp1 := Aside0.mk hp1
    clear hp1
    simp only [Option.some.injEq, Prod.mk.injEq] at h
    obtain ⟨rfl, rfl⟩ := h
    obtain ⟨ta0, ta1, ta2, ta3, ta4⟩ := value_own.ta0
    go_enter Tryz.func56, Tryz.ntmps56
    go_wp2_with (first | (go_at_call 78; refine (value_own.k0 _ _ _).mono ?_; rintro e w1 ⟨rfl, hb⟩; obtain ⟨hc, hb1, hz⟩ := value_own.kept hb; clear hb; have hc0 := hc 0; have hc1 := hc 1; have hc2 := hc 2; clear hc; simp only [List.getElem?_toArray, List.getElem?_cons_zero, List.getElem?_cons_succ] at hc0 hc1 hc2) | (go_at_call 89; refine (value_Text.calls _ _ _ _  _ _ Hhp1.out).mono ?_; rintro e w2 ⟨rfl, hq⟩))
    go_ret2
    exact ⟨rfl, by repeat (first | exact hb1 | exact hb1.trans (hq.mono hb1.size) | exact (Below.refl _ _).alloc (Nat.le_refl _) _ | refine Below.alloc ?_ (by first | exact hb1.size | exact (hb1.trans (hq.mono hb1.size)).size) _)⟩
  rw [if_neg c0] at h
  by_cases c1 : a0_0 = 1
  · subst c1
    rw [if_pos rfl] at h
    obtain ⟨t, hp2, h⟩ := Option.bind_eq_some_iff.mp h
    have Hhp2 := Aside0.mk hp2
    clear hp2
    simp only [Option.some.injEq, Prod.mk.injEq] at h
    obtain ⟨rfl, rfl⟩ := h
    obtain ⟨ta0, ta1, ta2, ta3, ta4⟩ := value_own.ta1
    go_enter Tryz.func56, Tryz.ntmps56
    go_wp2_with (first | (go_at_call 78; refine (value_own.k1 _ _ _).mono ?_; rintro e w1 ⟨rfl, hb⟩; obtain ⟨hc, hb1, hz⟩ := value_own.kept hb; clear hb; have hc0 := hc 0; have hc1 := hc 1; have hc2 := hc 2; clear hc; simp only [List.getElem?_toArray, List.getElem?_cons_zero, List.getElem?_cons_succ] at hc0 hc1 hc2) | (go_at_call 89; refine (value_Text.calls _ _ _ _  _ _ Hhp2.out).mono ?_; rintro e w2 ⟨rfl, hq⟩))
    go_ret2
    exact ⟨rfl, by repeat (first | exact hb1 | exact hb1.trans (hq.mono hb1.size) | exact (Below.refl _ _).alloc (Nat.le_refl _) _ | refine Below.alloc ?_ (by first | exact hb1.size | exact (hb1.trans (hq.mono hb1.size)).size) _)⟩
  rw [if_neg c1] at h
  by_cases c2 : a0_0 = 2
  · subst c2
    rw [if_pos rfl] at h
    obtain ⟨t, hp3, h⟩ := Option.bind_eq_some_iff.mp h
    have Hhp3 := Aside0.mk hp3
    clear hp3
    simp only [Option.some.injEq, Prod.mk.injEq] at h
    obtain ⟨rfl, rfl⟩ := h
    obtain ⟨ta0, ta1, ta2, ta3, ta4⟩ := value_own.ta2
    go_enter Tryz.func56, Tryz.ntmps56
    go_wp2_with (first | (go_at_call 78; refine (value_own.k2 _ _ _).mono ?_; rintro e w1 ⟨rfl, hb⟩; obtain ⟨hc, hb1, hz⟩ := value_own.kept hb; clear hb; have hc0 := hc 0; have hc1 := hc 1; have hc2 := hc 2; clear hc; simp only [List.getElem?_toArray, List.getElem?_cons_zero, List.getElem?_cons_succ] at hc0 hc1 hc2) | (go_at_call 89; refine (value_Text.calls _ _ _ _  _ _ Hhp3.out).mono ?_; rintro e w2 ⟨rfl, hq⟩))
    go_ret2
    exact ⟨rfl, by repeat (first | exact hb1 | exact hb1.trans (hq.mono hb1.size) | exact (Below.refl _ _).alloc (Nat.le_refl _) _ | refine Below.alloc ?_ (by first | exact hb1.size | exact (hb1.trans (hq.mono hb1.size)).size) _)⟩
  rw [if_neg c2] at h
  by_cases c3 : a0_0 = 3
  · subst c3
    rw [if_pos rfl] at h
    obtain ⟨t, hp4, h⟩ := Option.bind_eq_some_iff.mp h
    have Hhp4 := Aside0.mk hp4
    clear hp4
    simp only [Option.some.injEq, Prod.mk.injEq] at h
    obtain ⟨rfl, rfl⟩ := h
    obtain ⟨ta0, ta1, ta2, ta3, ta4⟩ := value_own.ta3
    go_enter Tryz.func56, Tryz.ntmps56
    go_wp2_with (first | (go_at_call 78; refine (value_own.k3 _ _ _).mono ?_; rintro e w1 ⟨rfl, hb⟩; obtain ⟨hc, hb1, hz⟩ := value_own.kept hb; clear hb; have hc0 := hc 0; have hc1 := hc 1; have hc2 := hc 2; clear hc; simp only [List.getElem?_toArray, List.getElem?_cons_zero, List.getElem?_cons_succ] at hc0 hc1 hc2) | (go_at_call 89; refine (value_Text.calls _ _ _ _  _ _ Hhp4.out).mono ?_; rintro e w2 ⟨rfl, hq⟩))
    go_ret2
    exact ⟨rfl, by repeat (first | exact hb1 | exact hb1.trans (hq.mono hb1.size) | exact (Below.refl _ _).alloc (Nat.le_refl _) _ | refine Below.alloc ?_ (by first | exact hb1.size | exact (hb1.trans (hq.mono hb1.size)).size) _)⟩
  rw [if_neg c3] at h
  by_cases c4 : a0_0 = 4
  · subst c4
    rw [if_pos rfl] at h
    simp only [Option.some.injEq, Prod.mk.injEq] at h
    obtain ⟨rfl, rfl⟩ := h
    obtain ⟨ta0, ta1, ta2, ta3, ta4⟩ := value_own.ta4
    go_enter Tryz.func56, Tryz.ntmps56
    go_wp2_with (first | (go_at_call 78; refine (value_own.k4 _ _ _).mono ?_; rintro e w1 ⟨rfl, hb⟩; obtain ⟨hc, hb1, hz⟩ := value_own.kept hb; clear hb; have hc0 := hc 0; have hc1 := hc 1; have hc2 := hc 2; clear hc; simp only [List.getElem?_toArray, List.getElem?_cons_zero, List.getElem?_cons_succ] at hc0 hc1 hc2))
    go_ret2
    exact ⟨rfl, by repeat (first | exact hb1 | exact hb1.trans (hq.mono hb1.size) | exact (Below.refl _ _).alloc (Nat.le_refl _) _ | refine Below.alloc ?_ (by first | exact hb1.size | exact (hb1.trans (hq.mono hb1.size)).size) _)⟩
  rw [if_neg c4] at h
  have HX := fun w => value_own.kx a0_0 a0_1 a0_2 (beq_eq_false_iff_ne.mpr c0) (beq_eq_false_iff_ne.mpr c1) (beq_eq_false_iff_ne.mpr c2) (beq_eq_false_iff_ne.mpr c3) (beq_eq_false_iff_ne.mpr c4) w
  have n2 : (a0_0 != 2) = true := bne_iff_ne.mpr c2
  clear c0 c1 c2 c3 c4
  obtain ⟨t, hp5, h⟩ := Option.bind_eq_some_iff.mp h
  have Hhp5 := Aside0.mk hp5
  clear hp5
  simp only [Option.some.injEq, Prod.mk.injEq] at h
  obtain ⟨rfl, rfl⟩ := h
  obtain ⟨ta0, ta1, ta2, ta3, ta4⟩ := value_own.tax
  go_enter Tryz.func56, Tryz.ntmps56
  go_wp2_with (first | (go_at_call 78; refine (HX _).mono ?_; rintro e w1 ⟨rfl, hb⟩; obtain ⟨hc, hb1, hz⟩ := value_own.kept hb; clear hb; have hc0 := hc 0; have hc1 := hc 1; have hc2 := hc 2; clear hc; simp only [List.getElem?_toArray, List.getElem?_cons_zero, List.getElem?_cons_succ] at hc0 hc1 hc2) | (go_at_call 89; refine (value_Text.calls _ _ _ _  _ _ Hhp5.out).mono ?_; rintro e w2 ⟨rfl, hq⟩))
  go_ret2
  exact ⟨rfl, by repeat (first | exact hb1 | exact hb1.trans (hq.mono hb1.size) | exact (Below.refl _ _).alloc (Nat.le_refl _) _ | refine Below.alloc ?_ (by first | exact hb1.size | exact (hb1.trans (hq.mono hb1.size)).size) _)⟩
end Go.Proofs.YtllceoncpgebpaaGreatDoor.P
