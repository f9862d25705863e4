-- Written by a program of this session (wip/tools/xprint.py), out of the seat's translation. Not trusted: Lean checks it.
import Derived.Test.YtnpcmgajplikbaaGreatDoorPx0
import Derived.Test.YtnpcmgajplikbaaGreatDoorPx3
import Derived.Test.YtnpcmgajplikbaaGreatDoorPx4
namespace Go.Proofs.YtnpcmgajplikbaaGreatDoor.P
open Go.RowKit Go.Proofs.YtnpcmgajplikbaaGreatDoorW.PrintWords Go.Proofs.YtnpcmgajplikbaaGreatDoorW.PrintLast Go.Proofs.YtnpcmgajplikbaaGreatDoorW.PrintMore
attribute [local go_sem] max2_int min2_int max_two min_two max_three min_three max_four min_four X.binOp_str_gtr X.binOp_str_leq   -- for this text's walks alone
set_option linter.unusedVariables false
set_option linter.unusedSimpArgs false

/-! ### num_Parse: function 128 -/
mutual
def num_Parse.j0 : Nat → Bool → ByteArray → Int → Int → Bool → Option (Int × Bool)
  | 0, _, _, _, _, _ => none
  | k + 1, x4, x6, x8, x10, x41 => if x41 = true then (some (0, false)) else (num_Parse.l0 k x4 x8 x10 (wrap64 (4 - (x6.size : Int))) 0)
def num_Parse.l0 : Nat → Bool → Int → Int → Int → Int → Option (Int × Bool)
  | 0, _, _, _, _, _ => none
  | k + 1, x4, x8, x10, x44, x45 => if x45 < x44 then (num_Parse.l0 k x4 x8 (wrap64 (x10 * 10)) x44 (wrap64 (x45 + 1))) else (if x4 = true then ((num_told.f (wrap64 (-(wrap64 ((wrap64 (x8 * 10000)) + x10))))).bind fun bt181 => (some (bt181.1, bt181.2))) else ((num_told.f (wrap64 ((wrap64 (x8 * 10000)) + x10))).bind fun bt183 => (some (bt183.1, bt183.2))))
end
def num_Parse.f (k : Nat) (a0 : ByteArray) : Option (Int × Bool) := (strings_CutPrefix.f a0 (⟨#[45]⟩ : ByteArray)).bind fun bt172 => ((strings_Cut.f k bt172.1 (⟨#[46]⟩ : ByteArray)).bind fun bt174 => ((num_count.f bt174.1 1 12).bind fun bt177 => ((num_count.f bt174.2.1 1 4).bind fun bt179 => (if bt177.2 = true then (if bt174.2.2 = true then (num_Parse.j0 k bt172.2 bt174.2.1 bt177.1 bt179.1 (!bt179.2)) else (num_Parse.j0 k bt172.2 bt174.2.1 bt177.1 bt179.1 false)) else (num_Parse.j0 k bt172.2 bt174.2.1 bt177.1 bt179.1 true)))))
theorem num_Parse.mono_l : ∀ k, (∀ y0 y1 y2 y3 y4, LeO (num_Parse.j0 k y0 y1 y2 y3 y4) (num_Parse.j0 (k + 1) y0 y1 y2 y3 y4)) ∧ (∀ y0 y1 y2 y3 y4, LeO (num_Parse.l0 k y0 y1 y2 y3 y4) (num_Parse.l0 (k + 1) y0 y1 y2 y3 y4))
  | 0 => ⟨fun _ _ _ _ _ r h => by simp [num_Parse.j0] at h, fun _ _ _ _ _ r h => by simp [num_Parse.l0] at h⟩
  | k + 1 => by
    obtain ⟨ih0, ih1⟩ := num_Parse.mono_l k
    refine ⟨?_, ?_⟩
    · intro y0 y1 y2 y3 y4
      unfold num_Parse.j0
      repeat' first
      | (with_reducible exact ih0 _ _ _ _ _)
      | (with_reducible exact ih1 _ _ _ _ _)
      | (with_reducible exact strings_Cut.mono _ _ _)
      | (with_reducible exact LeO.refl _)
      | (with_reducible exact LeO.none _)
      | (with_reducible refine LeO.ite ?_ ?_)
      | (with_reducible refine LeO.bind ?_ (fun _ => ?_))
      | exact ih0 _ _ _ _ _
      | exact ih1 _ _ _ _ _
      | exact strings_Cut.mono _ _ _
      | exact LeO.none _
      | refine LeO.ite ?_ ?_
      | refine LeO.bind ?_ (fun _ => ?_)
    · intro y0 y1 y2 y3 y4
      unfold num_Parse.l0
      repeat' first
      | (with_reducible exact ih0 _ _ _ _ _)
      | (with_reducible exact ih1 _ _ _ _ _)
      | (with_reducible exact strings_Cut.mono _ _ _)
      | (with_reducible exact LeO.refl _)
      | (with_reducible exact LeO.none _)
      | (with_reducible refine LeO.ite ?_ ?_)
      | (with_reducible refine LeO.bind ?_ (fun _ => ?_))
      | exact ih0 _ _ _ _ _
      | exact ih1 _ _ _ _ _
      | exact strings_Cut.mono _ _ _
      | exact LeO.none _
      | refine LeO.ite ?_ ?_
      | refine LeO.bind ?_ (fun _ => ?_)
theorem num_Parse.mono : ∀ a0 k, LeO (num_Parse.f k a0) (num_Parse.f (k + 1) a0) := by
  intro a0 k
  obtain ⟨ih0, ih1⟩ := num_Parse.mono_l k
  unfold num_Parse.f
  repeat' first
      | (with_reducible exact ih0 _ _ _ _ _)
      | (with_reducible exact ih1 _ _ _ _ _)
      | (with_reducible exact strings_Cut.mono _ _ _)
      | (with_reducible exact LeO.refl _)
      | (with_reducible exact LeO.none _)
      | (with_reducible refine LeO.ite ?_ ?_)
      | (with_reducible refine LeO.bind ?_ (fun _ => ?_))
      | exact ih0 _ _ _ _ _
      | exact ih1 _ _ _ _ _
      | exact strings_Cut.mono _ _ _
      | exact LeO.none _
      | refine LeO.ite ?_ ?_
      | refine LeO.bind ?_ (fun _ => ?_)
set_option maxHeartbeats 8000000 in
set_option maxRecDepth 100000 in
theorem num_Parse.calls (k : Nat) (a0 : ByteArray) (r1 : Int) (r2 : Bool) (w : World) (h : num_Parse.f k a0 = some (r1, r2)) :
    Calls Tryz.prog 128 #[.string a0] w fun e w' => e = .returned (.tuple #[.int .i64 r1, .bool r2]) ∧ Below w.heap.size w w' := by
  have HB := Aside0.mk (Below.refl w.heap.size w)
  have H : ((strings_CutPrefix.f a0 (⟨#[45]⟩ : ByteArray)).bind fun bt172 => ((strings_Cut.f k bt172.1 (⟨#[46]⟩ : ByteArray)).bind fun bt174 => ((num_count.f bt174.1 1 12).bind fun bt177 => ((num_count.f bt174.2.1 1 4).bind fun bt179 => (if bt177.2 = true then (if bt174.2.2 = true then (num_Parse.j0 k bt172.2 bt174.2.1 bt177.1 bt179.1 (!bt179.2)) else (num_Parse.j0 k bt172.2 bt174.2.1 bt177.1 bt179.1 false)) else (num_Parse.j0 k bt172.2 bt174.2.1 bt177.1 bt179.1 true)))))) = some (r1, r2) := h
  clear h
  replace H := Option.bind_eq_some_iff.mp H
  obtain ⟨⟨t172, t173⟩, A20, H⟩ := H
  replace H : ((strings_Cut.f k t172 (⟨#[46]⟩ : ByteArray)).bind fun bt174 => ((num_count.f bt174.1 1 12).bind fun bt177 => ((num_count.f bt174.2.1 1 4).bind fun bt179 => (if bt177.2 = true then (if bt174.2.2 = true then (num_Parse.j0 k t173 bt174.2.1 bt177.1 bt179.1 (!bt179.2)) else (num_Parse.j0 k t173 bt174.2.1 bt177.1 bt179.1 false)) else (num_Parse.j0 k t173 bt174.2.1 bt177.1 bt179.1 true))))) = some (r1, r2) := H
  have A2 := Aside0.mk A20
  clear A20
  replace H := Option.bind_eq_some_iff.mp H
  obtain ⟨⟨t174, t175, t176⟩, A30, H⟩ := H
  replace H : ((num_count.f t174 1 12).bind fun bt177 => ((num_count.f t175 1 4).bind fun bt179 => (if bt177.2 = true then (if t176 = true then (num_Parse.j0 k t173 t175 bt177.1 bt179.1 (!bt179.2)) else (num_Parse.j0 k t173 t175 bt177.1 bt179.1 false)) else (num_Parse.j0 k t173 t175 bt177.1 bt179.1 true)))) = some (r1, r2) := H
  have A3 := Aside0.mk A30
  clear A30
  replace H := Option.bind_eq_some_iff.mp H
  obtain ⟨⟨t177, t178⟩, A40, H⟩ := H
  replace H : ((num_count.f t175 1 4).bind fun bt179 => (if t178 = true then (if t176 = true then (num_Parse.j0 k t173 t175 t177 bt179.1 (!bt179.2)) else (num_Parse.j0 k t173 t175 t177 bt179.1 false)) else (num_Parse.j0 k t173 t175 t177 bt179.1 true))) = some (r1, r2) := H
  have A4 := Aside0.mk A40
  clear A40
  replace H := Option.bind_eq_some_iff.mp H
  obtain ⟨⟨t179, t180⟩, A50, H⟩ := H
  replace H : (if t178 = true then (if t176 = true then (num_Parse.j0 k t173 t175 t177 t179 (!t180)) else (num_Parse.j0 k t173 t175 t177 t179 false)) else (num_Parse.j0 k t173 t175 t177 t179 true)) = some (r1, r2) := H
  have A5 := Aside0.mk A50
  clear A50
  have HC6 := Aside0.mk H
  clear H
  go_enter Tryz.func128, Tryz.ntmps128
  go_upto_region 5 with (first | ((with_reducible refine gate_callee (f := 133) rfl ?_); refine goesL_ (some 14) rfl rfl Tryz.func133 (by kernel_rfl) rfl #[.string a0, .string (⟨#[45]⟩ : ByteArray)] rfl (by (try simp only [List.map_toArray, List.map_cons, List.map_nil]); first | done | rfl | (simp only [List.length_drop, List.length_take]; rfl)) ?_; (with_reducible refine (strings_CutPrefix.calls a0 (⟨#[45]⟩ : ByteArray) t172 t173 _ A2.out).mono ?_); rintro e w' ⟨rfl, ⟨nd, rfl⟩⟩; refine ⟨_, rfl, ?_⟩) | ((with_reducible refine gate_callee (f := 134) rfl ?_); refine goesL_ (some 19) rfl rfl Tryz.func134 (by kernel_rfl) rfl #[.string t172, .string (⟨#[46]⟩ : ByteArray)] rfl (by (try simp only [List.map_toArray, List.map_cons, List.map_nil]); first | done | rfl | (simp only [List.length_drop, List.length_take]; rfl)) ?_; (with_reducible refine (strings_Cut.calls k t172 (⟨#[46]⟩ : ByteArray) t174 t175 t176 _ A3.out).mono ?_); rintro e w' ⟨rfl, ⟨nd, rfl⟩⟩; refine ⟨_, rfl, ?_⟩) | ((with_reducible refine gate_callee (f := 135) rfl ?_); refine goesL_ (some 25) rfl rfl Tryz.func135 (by kernel_rfl) rfl #[.string t174, .int .i64 1, .int .i64 12] rfl (by (try simp only [List.map_toArray, List.map_cons, List.map_nil]); first | done | rfl | (simp only [List.length_drop, List.length_take]; rfl)) ?_; (with_reducible refine (num_count.calls t174 1 12 t177 t178 _ A4.out).mono ?_); rintro e w7 ⟨rfl, hb⟩; refine ⟨_, rfl, ?_⟩; have n0_ := Aside0.mk (below_step (by repeat (first | (with_reducible first | exact HB.out | apply below_alloc | apply pw_below_drewN | apply below_drew1) | exact HB.out)) hb); clear HB; have HB := n0_; clear n0_; (try clear hb); (try clear hb2); (try clear hk); (try clear hi)) | ((with_reducible refine gate_callee (f := 135) rfl ?_); refine goesL_ (some 30) rfl rfl Tryz.func135 (by kernel_rfl) rfl #[.string t175, .int .i64 1, .int .i64 4] rfl (by (try simp only [List.map_toArray, List.map_cons, List.map_nil]); first | done | rfl | (simp only [List.length_drop, List.length_take]; rfl)) ?_; (with_reducible refine (num_count.calls t175 1 4 t179 t180 _ A5.out).mono ?_); rintro e w8 ⟨rfl, hb⟩; refine ⟨_, rfl, ?_⟩; have n0_ := Aside0.mk (below_step (by repeat (first | (with_reducible first | exact HB.out | apply below_alloc | apply pw_below_drewN | apply below_drew1) | exact HB.out)) hb); clear HB; have HB := n0_; clear n0_; (try clear hb); (try clear hb2); (try clear hk); (try clear hi)))
  (try simp only [Act.put, List.setIfInBounds_toArray, List.set_cons_zero, List.set_cons_succ])
  go_cut [41] (fun v41 wc => ∃ (kq : Nat) (x41_5 : Bool), v41 = .bool x41_5 ∧ Aside0 (num_Parse.j0 kq t173 t175 t177 t179 x41_5 = some (r1, r2)) ∧ Aside0 (kq ≤ k) ∧ Aside0 (Below w.heap.size w wc))
  case first =>
    have H := HC6.out
    clear HC6
    by_cases c9 : t178 = true
    · subst c9
      have H1 : (if t176 = true then (num_Parse.j0 k t173 t175 t177 t179 (!t180)) else (num_Parse.j0 k t173 t175 t177 t179 false)) = some (r1, r2) := by rw [if_pos rfl] at H; exact H
      clear H
      have H := H1
      clear H1
      by_cases c10 : t176 = true
      · subst c10
        have H1 : (num_Parse.j0 k t173 t175 t177 t179 (!t180)) = some (r1, r2) := by rw [if_pos rfl] at H; exact H
        clear H
        have H := H1
        clear H1
        have H' := Aside0.mk H
        clear H
        go_wp2
        go_meet
        case rel => exact ⟨_, (!t180), (by first | rfl | (simp; done) | (simp [*]; done) | (simp [Go.Proofs.YtnpcmgajplikbaaGreatDoor.X.bne_nil]; done)), H', ⟨by first | omega | exact Nat.le_refl _⟩, ⟨by repeat (first | (with_reducible first | exact HB.out | apply below_alloc | apply pw_below_drewN | apply below_drew1) | exact HB.out)⟩⟩
      · replace c10 := Bool.eq_false_iff.mpr c10
        subst c10
        have H1 : (num_Parse.j0 k t173 t175 t177 t179 false) = some (r1, r2) := by rw [if_neg (show ¬ (false = true) by decide)] at H; exact H
        clear H
        have H := H1
        clear H1
        have H' := Aside0.mk H
        clear H
        go_wp2
        go_meet
        case rel => exact ⟨_, (false), (by first | rfl | (simp; done) | (simp [*]; done) | (simp [Go.Proofs.YtnpcmgajplikbaaGreatDoor.X.bne_nil]; done)), H', ⟨by first | omega | exact Nat.le_refl _⟩, ⟨by repeat (first | (with_reducible first | exact HB.out | apply below_alloc | apply pw_below_drewN | apply below_drew1) | exact HB.out)⟩⟩
    · replace c9 := Bool.eq_false_iff.mpr c9
      subst c9
      have H1 : (num_Parse.j0 k t173 t175 t177 t179 true) = some (r1, r2) := by rw [if_neg (show ¬ (false = true) by decide)] at H; exact H
      clear H
      have H := H1
      clear H1
      have H' := Aside0.mk H
      clear H
      go_wp2
      go_meet
      case rel => exact ⟨_, (true), (by first | rfl | (simp; done) | (simp [*]; done) | (simp [Go.Proofs.YtnpcmgajplikbaaGreatDoor.X.bne_nil]; done)), H', ⟨by first | omega | exact Nat.le_refl _⟩, ⟨by repeat (first | (with_reducible first | exact HB.out | apply below_alloc | apply pw_below_drewN | apply below_drew1) | exact HB.out)⟩⟩
  case rest =>
    clear HC6
    try clear c1
    try clear p2
    try clear c9
    try clear c10
    obtain ⟨kq, x41_5, rfl, HA, HJ5, HB⟩ := hcut
    cases kq with
    | zero => exact absurd HA.out (by simp [num_Parse.j0])
    | succ kj5 =>
      have H := HA.out
      clear HA
      simp only [num_Parse.j0] at H
      by_cases c11 : x41_5 = true
      · subst c11
        have H1 : (some (0, false)) = some (r1, r2) := by rw [if_pos rfl] at H; exact H
        clear H
        have H := H1
        clear H1
        simp only [Option.some.injEq, Prod.mk.injEq] at H
        obtain ⟨rfl, rfl⟩ := H
        go_wp2
        go_ret2
        exact ⟨by first | rfl | (simp [errW_none, errW_some] <;> rfl) | (simp [*, errW_none, errW_some] <;> rfl), by repeat (first | (with_reducible first | exact HB.out | apply below_alloc | apply pw_below_drewN | apply below_drew1) | exact HB.out)⟩
      · replace c11 := Bool.eq_false_iff.mpr c11
        subst c11
        have H1 : (num_Parse.l0 kj5 t173 t177 t179 (wrap64 (4 - (t175.size : Int))) 0) = some (r1, r2) := by rw [if_neg (show ¬ (false = true) by decide)] at H; exact H
        clear H
        have H := H1
        clear H1
        have H' := Aside0.mk H
        clear H
        go_wp2
        go_loopg [10, 45] kj5 (fun kq v10 v45 w' => ∃ (x10_2 : Int) (x45_2 : Int), v10 = .int .i64 x10_2 ∧ v45 = .int .i64 x45_2 ∧ Aside0 (num_Parse.l0 kq t173 t177 x10_2 (wrap64 (4 - (t175.size : Int))) x45_2 = some (r1, r2)) ∧ Aside0 (kq ≤ kj5) ∧ Aside0 (Below w.heap.size w w'))
        case atStart => exact ⟨(t179), (0), (by first | rfl | (simp; done) | (simp [*]; done) | (simp [Go.Proofs.YtnpcmgajplikbaaGreatDoor.X.bne_nil]; done)), (by first | rfl | (simp; done) | (simp [*]; done) | (simp [Go.Proofs.YtnpcmgajplikbaaGreatDoor.X.bne_nil]; done)), H', ⟨Nat.le_refl _⟩, ⟨by repeat (first | (with_reducible first | exact HB.out | apply below_alloc | apply pw_below_drewN | apply below_drew1) | exact HB.out)⟩⟩
        case round =>
          clear H'
          try clear c1
          try clear p2
          try clear p6
          try clear c9
          try clear c10
          try clear c11
          try clear p2
          obtain ⟨x10_2, x45_2, rfl, rfl, HA, HK2, HB⟩ := hrel
          cases gk with
          | zero => exact absurd HA.out (by simp [num_Parse.l0])
          | succ k2 =>
            have H := HA.out
            clear HA
            simp only [num_Parse.l0] at H
            by_cases c12 : x45_2 < (wrap64 (4 - (t175.size : Int)))
            · rw [if_pos c12] at H
              have c12b0 : decide (x45_2 < (wrap64 (4 - (t175.size : Int)))) = true := decide_eq_true c12
              clear c12
              have H' := Aside0.mk H
              clear H
              go_wp2
              go_roundg k2
              case measure => have := HJ5.out; have := HK2.out; omega
              case rel => exact ⟨(wrap64 (x10_2 * 10)), (wrap64 (x45_2 + 1)), (by first | rfl | (simp; done) | (simp [*]; done) | (simp [Go.Proofs.YtnpcmgajplikbaaGreatDoor.X.bne_nil]; done)), (by first | rfl | (simp; done) | (simp [*]; done) | (simp [Go.Proofs.YtnpcmgajplikbaaGreatDoor.X.bne_nil]; done)), H', ⟨by have := HJ5.out; have := HK2.out; omega⟩, ⟨by repeat (first | (with_reducible first | exact HB.out | apply below_alloc | apply pw_below_drewN | apply below_drew1) | exact HB.out)⟩⟩
            · rw [if_neg c12] at H
              have c12b0 : decide (x45_2 < (wrap64 (4 - (t175.size : Int)))) = false := decide_eq_false c12
              clear c12
              by_cases c13 : t173 = true
              · subst c13
                have H1 : ((num_told.f (wrap64 (-(wrap64 ((wrap64 (t177 * 10000)) + x10_2))))).bind fun bt181 => (some (bt181.1, bt181.2))) = some (r1, r2) := by rw [if_pos rfl] at H; exact H
                clear H
                have H := H1
                clear H1
                replace H := Option.bind_eq_some_iff.mp H
                obtain ⟨⟨t181, t182⟩, A140, H⟩ := H
                replace H : (some (t181, t182)) = some (r1, r2) := H
                have A14 := Aside0.mk A140
                clear A140
                simp only [Option.some.injEq, Prod.mk.injEq] at H
                obtain ⟨rfl, rfl⟩ := H
                go_wp2_with (first | ((with_reducible refine gate_callee (f := 76) rfl ?_); refine goesL_ (some 58) rfl rfl Tryz.func76 (by kernel_rfl) rfl #[.int .i64 (wrap64 (-(wrap64 ((wrap64 (t177 * 10000)) + x10_2))))] rfl (by (try simp only [List.map_toArray, List.map_cons, List.map_nil]); first | done | rfl | (simp only [List.length_drop, List.length_take]; rfl)) ?_; (with_reducible refine (num_told.calls (wrap64 (-(wrap64 ((wrap64 (t177 * 10000)) + x10_2)))) t181 t182 _ A14.out).mono ?_); rintro e w' ⟨rfl, ⟨nd, rfl⟩⟩; refine ⟨_, rfl, ?_⟩))
                go_ret2
                exact ⟨by first | rfl | (simp [errW_none, errW_some] <;> rfl) | (simp [*, errW_none, errW_some] <;> rfl), by repeat (first | (with_reducible first | exact HB.out | apply below_alloc | apply pw_below_drewN | apply below_drew1) | exact HB.out)⟩
              · replace c13 := Bool.eq_false_iff.mpr c13
                subst c13
                have H1 : ((num_told.f (wrap64 ((wrap64 (t177 * 10000)) + x10_2))).bind fun bt183 => (some (bt183.1, bt183.2))) = some (r1, r2) := by rw [if_neg (show ¬ (false = true) by decide)] at H; exact H
                clear H
                have H := H1
                clear H1
                replace H := Option.bind_eq_some_iff.mp H
                obtain ⟨⟨t183, t184⟩, A150, H⟩ := H
                replace H : (some (t183, t184)) = some (r1, r2) := H
                have A15 := Aside0.mk A150
                clear A150
                simp only [Option.some.injEq, Prod.mk.injEq] at H
                obtain ⟨rfl, rfl⟩ := H
                go_wp2_with (first | ((with_reducible refine gate_callee (f := 76) rfl ?_); refine goesL_ (some 58) rfl rfl Tryz.func76 (by kernel_rfl) rfl #[.int .i64 (wrap64 ((wrap64 (t177 * 10000)) + x10_2))] rfl (by (try simp only [List.map_toArray, List.map_cons, List.map_nil]); first | done | rfl | (simp only [List.length_drop, List.length_take]; rfl)) ?_; (with_reducible refine (num_told.calls (wrap64 ((wrap64 (t177 * 10000)) + x10_2)) t183 t184 _ A15.out).mono ?_); rintro e w' ⟨rfl, ⟨nd, rfl⟩⟩; refine ⟨_, rfl, ?_⟩))
                go_ret2
                exact ⟨by first | rfl | (simp [errW_none, errW_some] <;> rfl) | (simp [*, errW_none, errW_some] <;> rfl), by repeat (first | (with_reducible first | exact HB.out | apply below_alloc | apply pw_below_drewN | apply below_drew1) | exact HB.out)⟩

/-! ### num_Whole: function 80 -/
def num_Whole.f (a0 : Int) : Option (Int × Bool) := (num_Good.f a0).bind fun t185 => (if t185 = true then (if (Int.tmod a0 10000) = 0 then (some (wrap64 (Int.tdiv a0 10000), true)) else (some (0, false))) else (some (0, false)))
set_option maxHeartbeats 8000000 in
set_option maxRecDepth 100000 in
theorem num_Whole.calls (a0 : Int) (r1 : Int) (r2 : Bool) (w : World) (h : num_Whole.f a0 = some (r1, r2)) :
    Calls Tryz.prog 80 #[.int .i64 a0] w fun e w' => e = .returned (.tuple #[.int .i64 r1, .bool r2]) ∧ Drawn0 w w' := by
  have H : ((num_Good.f a0).bind fun t185 => (if t185 = true then (if (Int.tmod a0 10000) = 0 then (some (wrap64 (Int.tdiv a0 10000), true)) else (some (0, false))) else (some (0, false)))) = some (r1, r2) := h
  clear h
  replace H := Option.bind_eq_some_iff.mp H
  obtain ⟨t185, A20, H⟩ := H
  replace H : (if t185 = true then (if (Int.tmod a0 10000) = 0 then (some (wrap64 (Int.tdiv a0 10000), true)) else (some (0, false))) else (some (0, false))) = some (r1, r2) := H
  have A2 := Aside0.mk A20
  clear A20
  by_cases c3 : t185 = true
  · subst c3
    have H1 : (if (Int.tmod a0 10000) = 0 then (some (wrap64 (Int.tdiv a0 10000), true)) else (some (0, false))) = some (r1, r2) := by rw [if_pos rfl] at H; exact H
    clear H
    have H := H1
    clear H1
    by_cases c4 : (Int.tmod a0 10000) = 0
    · rw [if_pos c4] at H
      have c4b0 : ((Int.tmod a0 10000) == 0) = true := beq_iff_eq.mpr c4
      have c4b1 : ((Int.tmod a0 10000) != 0) = false := bne_eq_false_iff_eq.mpr c4
      clear c4
      simp only [Option.some.injEq, Prod.mk.injEq] at H
      obtain ⟨rfl, rfl⟩ := H
      go_enter Tryz.func80, Tryz.ntmps80
      go_wp2_with (first | ((with_reducible refine gate_callee (f := 59) rfl ?_); refine goesL_ (some 5) rfl rfl Tryz.func59 (by kernel_rfl) rfl #[.int .i64 a0] rfl (by (try simp only [List.map_toArray, List.map_cons, List.map_nil]); first | done | rfl | (simp only [List.length_drop, List.length_take]; rfl)) ?_; (with_reducible refine (num_Good.calls a0 true _ A2.out).mono ?_); rintro e w' ⟨rfl, ⟨nd, rfl⟩⟩; refine ⟨_, rfl, ?_⟩))
      go_ret2
      exact ⟨by first | rfl | (simp; done) | (simp [*]; done) | (simp [Go.Proofs.YtnpcmgajplikbaaGreatDoor.X.bne_nil]; done), by repeat (first | exact Drawn0.refl _ | apply Drawn0.step)⟩
    · rw [if_neg c4] at H
      have c4b0 : ((Int.tmod a0 10000) == 0) = false := beq_eq_false_iff_ne.mpr c4
      have c4b1 : ((Int.tmod a0 10000) != 0) = true := bne_iff_ne.mpr c4
      simp only [Option.some.injEq, Prod.mk.injEq] at H
      obtain ⟨rfl, rfl⟩ := H
      go_enter Tryz.func80, Tryz.ntmps80
      go_wp2_with (first | ((with_reducible refine gate_callee (f := 59) rfl ?_); refine goesL_ (some 5) rfl rfl Tryz.func59 (by kernel_rfl) rfl #[.int .i64 a0] rfl (by (try simp only [List.map_toArray, List.map_cons, List.map_nil]); first | done | rfl | (simp only [List.length_drop, List.length_take]; rfl)) ?_; (with_reducible refine (num_Good.calls a0 true _ A2.out).mono ?_); rintro e w' ⟨rfl, ⟨nd, rfl⟩⟩; refine ⟨_, rfl, ?_⟩))
      go_ret2
      exact ⟨by first | rfl | (simp; done) | (simp [*]; done) | (simp [Go.Proofs.YtnpcmgajplikbaaGreatDoor.X.bne_nil]; done), by repeat (first | exact Drawn0.refl _ | apply Drawn0.step)⟩
  · replace c3 := Bool.eq_false_iff.mpr c3
    subst c3
    have H1 : (some (0, false)) = some (r1, r2) := by rw [if_neg (show ¬ (false = true) by decide)] at H; exact H
    clear H
    have H := H1
    clear H1
    simp only [Option.some.injEq, Prod.mk.injEq] at H
    obtain ⟨rfl, rfl⟩ := H
    go_enter Tryz.func80, Tryz.ntmps80
    go_wp2_with (first | ((with_reducible refine gate_callee (f := 59) rfl ?_); refine goesL_ (some 5) rfl rfl Tryz.func59 (by kernel_rfl) rfl #[.int .i64 a0] rfl (by (try simp only [List.map_toArray, List.map_cons, List.map_nil]); first | done | rfl | (simp only [List.length_drop, List.length_take]; rfl)) ?_; (with_reducible refine (num_Good.calls a0 false _ A2.out).mono ?_); rintro e w' ⟨rfl, ⟨nd, rfl⟩⟩; refine ⟨_, rfl, ?_⟩))
    go_ret2
    exact ⟨by first | rfl | (simp; done) | (simp [*]; done) | (simp [Go.Proofs.YtnpcmgajplikbaaGreatDoor.X.bne_nil]; done), by repeat (first | exact Drawn0.refl _ | apply Drawn0.step)⟩

-- NOT PRINTED: function 81 (num_Pow_1)

/-! ### num_Pow: function 43 -/
def num_Pow.pows (k : Nat) : Nat → Int → Bool → Int → Option (Int × Bool)
  | 0, p, ok, _ => some (p, ok)
  | n + 1, p, ok, a => if ok = true then ((num_Mul.f k p a).bind fun t => num_Pow.pows k n t.1 t.2 a) else num_Pow.pows k n p ok a
def num_Pow.f (k : Nat) (a0 : Int) (a1 : Int) : Option (Int × Bool) := (num_Whole.f a1).bind fun t => ((num_Good.f a0).bind fun g =>
  (if t.2 = true ∧ g = true ∧ -64 ≤ t.1 ∧ t.1 ≤ 64 ∧ ¬ (a0 = 0 ∧ t.1 = 0) then ((num_Pow.pows k (max t.1 (-t.1)).toNat 10000 true a0).bind fun q =>
    (if q.2 = true then (if t.1 < 0 then (num_Div.f k 10000 q.1) else some (q.1, true)) else some (0, false))) else some (0, false)))
theorem num_Pow.mono_p : ∀ n p ok a k, LeO (num_Pow.pows k n p ok a) (num_Pow.pows (k + 1) n p ok a) := by
  intro n
  induction n with
  | zero => intro p ok a k; exact LeO.refl _
  | succ n ih =>
    intro p ok a k
    simp only [num_Pow.pows]
    exact LeO.ite (LeO.bind (num_Mul.mono _ _ _) (fun _ => ih _ _ _ _)) (ih _ _ _ _)
theorem num_Pow.mono : ∀ a0 a1 k, LeO (num_Pow.f k a0 a1) (num_Pow.f (k + 1) a0 a1) := by
  intro a0 a1 k
  unfold num_Pow.f
  exact LeO.bind (LeO.refl _) (fun _ => LeO.bind (LeO.refl _) (fun _ => LeO.ite (LeO.bind (num_Pow.mono_p _ _ _ _ _) (fun _ => LeO.ite (LeO.ite (num_Div.mono _ _ _) (LeO.refl _)) (LeO.refl _))) (LeO.refl _)))
def num_Pow.In (w w' : World) (B bo bp ba : Nat) (ok : Bool) (p a : Int) : Prop := X.Blk w' bo 4 #[.bool ok] ∧ X.Blk w' bp 3 #[.int .i64 p] ∧ X.Blk w' ba 3 #[.int .i64 a] ∧ Below B w w'
set_option maxHeartbeats 8000000 in
set_option maxRecDepth 100000 in
theorem num_Pow.times (k : Nat) (n : Nat) (m : Int) (hm : m = (n : Int)) (ok : Bool) (p a : Int) (r : Int × Bool) (w0 w : World) (B bo bp ba : Nat) (h : num_Pow.pows k n p ok a = some r) (hn : (n : Int) ≤ 64)
    (hb : B ≤ bo) (hb2 : B ≤ bp) (hd1 : bo ≠ bp) (hd2 : bo ≠ ba) (hd3 : bp ≠ ba) (hw : num_Pow.In w0 w B bo bp ba ok p a) :
    Calls Tryz.prog 81 #[.int .i64 m, .pointer (some ⟨bo, 0, none⟩), .pointer (some ⟨bp, 0, none⟩), .pointer (some ⟨ba, 0, none⟩)] w fun e w' => e = .returned (.tuple #[]) ∧ num_Pow.In w0 w' B bo bp ba r.2 r.1 a := by
  subst hm
  have H' := Aside0.mk h
  have HW := Aside0.mk hw
  have HD := Aside0.mk (And.intro hd1 (And.intro hd2 hd3))
  have HBB := Aside0.mk (And.intro hb hb2)
  clear h hw hd1 hd2 hd3 hb hb2
  go_enter Tryz.func81, Tryz.ntmps81
  go_wp2
  go_loopg [6] n (fun g v6 w' => ∃ (i : Int) (ok' : Bool) (p' : Int), v6 = .int .i64 i ∧ Aside0 ((g : Int) + i = n ∧ 0 ≤ i) ∧ Aside0 (num_Pow.pows k g p' ok' a = some r) ∧ Aside0 (num_Pow.In w0 w' B bo bp ba ok' p' a))
  case atStart => exact ⟨0, ok, p, rfl, ⟨by omega⟩, H', HW⟩
  case round =>
    clear H' HW
    obtain ⟨i, ok', p', rfl, HI, HA, HW⟩ := hrel
    have hi := HI.out
    obtain ⟨b1, b2, b3, b4⟩ := HW.out
    have c1 := b1.cell 0
    have c2 := b2.cell 0
    have c3 := b3.cell 0
    have f1 := b1.frozen 0
    have f2 := b2.frozen 0
    simp only [List.getElem?_toArray, List.getElem?_cons_zero] at c1 c2 c3
    cases gk with
    | zero =>
      have c : decide (i < (n : Int)) = false := decide_eq_false (by omega)
      have hr := Option.some.inj HA.out
      subst hr
      clear hi b1 b2 b3 b4
      go_wp2
      go_end0
      exact ⟨rfl, HW.out⟩
    | succ g =>
      have c : decide (i < (n : Int)) = true := decide_eq_true (by omega)
      have H := HA.out
      simp only [num_Pow.pows] at H
      cases ok' with
      | false =>
        have H1 := Aside0.mk (show num_Pow.pows k g p' false a = some r from by simpa using H)
        clear H
        have i1 : i + 1 ≤ 64 := by omega
        have i0 : 0 ≤ i := by omega
        clear hi b1 b2 b3 b4
        go_wp2
        go_roundg g
        case measure => omega
        case rel => exact ⟨_, _, _, rfl, ⟨by have := HI.out; omega⟩, H1, HW⟩
      | true =>
        rw [if_pos rfl] at H
        obtain ⟨⟨t1, t2⟩, A10, H⟩ := Option.bind_eq_some_iff.mp H
        have A1 := Aside0.mk A10
        have H1 := Aside0.mk H
        clear H A10
        have i1 : i + 1 ≤ 64 := by omega
        have i0 : 0 ≤ i := by omega
        clear hi b1 b2 b3 b4
        go_wp2_with (first | (go_at_call 82; refine (num_Mul.calls k p' a t1 t2 _ A1.out).mono ?_; rintro e w1 ⟨rfl, hb⟩; have Hb := Aside0.mk hb; have B1' := Aside0.mk ((HW.out.1).below hb (HW.out.1).lt); have B2' := Aside0.mk ((HW.out.2.1).below hb (HW.out.2.1).lt); have B3' := Aside0.mk ((HW.out.2.2.1).below hb (HW.out.2.2.1).lt); have d1 : ∀ v, (w1.setCell ⟨bp, 0, none⟩ v).cell? ⟨bo, 0, none⟩ = some (.bool true) := (fun v => ((B1'.out).far (p := ⟨bp, 0, none⟩) HD.out.1 v).cell 0); have d2 : w1.cell? ⟨bp, 0, none⟩ = some (.int .i64 p') := (B2'.out).cell 0; have g1 : ∀ v, (w1.setCell ⟨bp, 0, none⟩ v).frozen? ⟨bo, 0, none⟩ = false := (fun v => ((B1'.out).far (p := ⟨bp, 0, none⟩) HD.out.1 v).frozen 0); have g2 := (B2'.out).frozen 0; clear hb))
        go_roundg g
        case measure => omega
        case rel =>
          refine ⟨_, _, _, rfl, ⟨by have := HI.out; omega⟩, H1, ⟨?_⟩⟩
          have hh := HD.out
          refine ⟨(((B1'.out).far (p := ⟨bp, 0, none⟩) hh.1 _).set_ 0 _), (((B2'.out).set_ 0 _).far (p := ⟨bo, 0, none⟩) (Ne.symm hh.1) _), (((B3'.out).far (p := ⟨bp, 0, none⟩) (Ne.symm hh.2.2) _).far (p := ⟨bo, 0, none⟩) (Ne.symm hh.2.1) _), ?_⟩
          exact ((HW.out.2.2.2.trans (Hb.out.mono (Nat.le_of_lt (Nat.lt_of_le_of_lt HBB.out.1 (HW.out.1).lt)))).setCell HBB.out.2 _).setCell HBB.out.1 _
theorem num_Pow.start (w : World) (nd nd2 : Nat) (a0 : Int) : num_Pow.In w (((((w.alloc (Obj.cells #[Value.int IntKind.i64 a0] 3)).drewN nd).alloc (Obj.cells #[Value.bool true] 4)).drewN nd2).alloc (Obj.cells #[Value.int IntKind.i64 10000] 3)) w.heap.size (w.heap.size + 1) (w.heap.size + 1 + 1) w.heap.size true 10000 a0 := by
  have h1 := (((X.Blk.new ((w.alloc (Obj.cells #[Value.int IntKind.i64 a0] 3)).drewN nd) 4 #[Value.bool true]).drewN nd2).alloc (Obj.cells #[Value.int IntKind.i64 10000] 3))
  have h2 := X.Blk.new ((((w.alloc (Obj.cells #[Value.int IntKind.i64 a0] 3)).drewN nd).alloc (Obj.cells #[Value.bool true] 4)).drewN nd2) 3 #[Value.int IntKind.i64 10000]
  have h3 := ((((X.Blk.new w 3 #[Value.int IntKind.i64 a0]).drewN nd).alloc (Obj.cells #[Value.bool true] 4)).drewN nd2).alloc (Obj.cells #[Value.int IntKind.i64 10000] 3)
  refine ⟨by simpa using h1, by simpa using h2, h3, ?_⟩
  repeat (first | exact Below.refl _ _ | apply below_alloc | apply pw_below_drewN)
set_option maxHeartbeats 8000000 in
set_option maxRecDepth 100000 in
theorem num_Pow.calls (k : Nat) (a0 : Int) (a1 : Int) (r1 : Int) (r2 : Bool) (w : World) (h : num_Pow.f k a0 a1 = some (r1, r2)) :
    Calls Tryz.prog 43 #[.int .i64 a0, .int .i64 a1] w fun e w' => e = .returned (.tuple #[.int .i64 r1, .bool r2]) ∧ Below w.heap.size w w' := by
  unfold num_Pow.f at h
  obtain ⟨⟨t1, t2⟩, A10, h⟩ := Option.bind_eq_some_iff.mp h
  obtain ⟨g, A20, h⟩ := Option.bind_eq_some_iff.mp h
  have A1 := Aside0.mk A10
  have A2 := Aside0.mk A20
  clear A10 A20
  simp only at h
  have hmf : ∀ (fn : Fn) (first cap : Array Value) (w : World), (Instr.makeFunc fn first cap).run Tryz.prog w = .ok (.func fn first cap) w := fun _ _ _ _ => rfl
  cases t2 with
  | false =>
    rw [if_neg (by simp)] at h
    simp only [Option.some.injEq, Prod.mk.injEq] at h
    obtain ⟨rfl, rfl⟩ := h
    go_enter Tryz.func43, Tryz.ntmps43
    go_wp2_with (first | (go_at_call 80; refine (num_Whole.calls a1 t1 false _ A1.out).mono ?_; rintro e w1 ⟨rfl, nd, rfl⟩))
    go_ret2
    exact ⟨rfl, by repeat (first | exact Below.refl _ _ | apply below_alloc | apply pw_below_drewN | apply below_drew1 | refine Below.setCell ?_ (by simp) _)⟩
  | true =>
    cases g with
    | false =>
      rw [if_neg (by simp)] at h
      simp only [Option.some.injEq, Prod.mk.injEq] at h
      obtain ⟨rfl, rfl⟩ := h
      go_enter Tryz.func43, Tryz.ntmps43
      go_wp2_with (first | (go_at_call 80; refine (num_Whole.calls a1 t1 true _ A1.out).mono ?_; rintro e w1 ⟨rfl, nd, rfl⟩) | (go_at_call 59; refine (num_Good.calls a0 false _ A2.out).mono ?_; rintro e w1 ⟨rfl, nd2, rfl⟩))
      go_ret2
      exact ⟨rfl, by repeat (first | exact Below.refl _ _ | apply below_alloc | apply pw_below_drewN | apply below_drew1 | refine Below.setCell ?_ (by simp) _)⟩
    | true =>
      by_cases c1 : t1 < -64
      · rw [if_neg (by omega)] at h
        have c1b : decide (t1 < -64) = true := decide_eq_true c1
        clear c1
        simp only [Option.some.injEq, Prod.mk.injEq] at h
        obtain ⟨rfl, rfl⟩ := h
        go_enter Tryz.func43, Tryz.ntmps43
        go_wp2_with (first | (go_at_call 80; refine (num_Whole.calls a1 t1 true _ A1.out).mono ?_; rintro e w1 ⟨rfl, nd, rfl⟩) | (go_at_call 59; refine (num_Good.calls a0 true _ A2.out).mono ?_; rintro e w1 ⟨rfl, nd2, rfl⟩))
        go_ret2
        exact ⟨rfl, by repeat (first | exact Below.refl _ _ | apply below_alloc | apply pw_below_drewN | apply below_drew1 | refine Below.setCell ?_ (by simp) _)⟩
      · have c1b : decide (t1 < -64) = false := decide_eq_false c1
        by_cases c2 : 64 < t1
        · rw [if_neg (by omega)] at h
          have c2b : decide (64 < t1) = true := decide_eq_true c2
          clear c1 c2
          simp only [Option.some.injEq, Prod.mk.injEq] at h
          obtain ⟨rfl, rfl⟩ := h
          go_enter Tryz.func43, Tryz.ntmps43
          go_wp2_with (first | (go_at_call 80; refine (num_Whole.calls a1 t1 true _ A1.out).mono ?_; rintro e w1 ⟨rfl, nd, rfl⟩) | (go_at_call 59; refine (num_Good.calls a0 true _ A2.out).mono ?_; rintro e w1 ⟨rfl, nd2, rfl⟩))
          go_ret2
          exact ⟨rfl, by repeat (first | exact Below.refl _ _ | apply below_alloc | apply pw_below_drewN | apply below_drew1 | refine Below.setCell ?_ (by simp) _)⟩
        · have c2b : decide (64 < t1) = false := decide_eq_false c2
          by_cases c3 : a0 = 0 ∧ t1 = 0
          · rw [if_neg (by omega)] at h
            obtain ⟨rfl, rfl⟩ := c3
            clear c1 c2
            simp only [Option.some.injEq, Prod.mk.injEq] at h
            obtain ⟨rfl, rfl⟩ := h
            go_enter Tryz.func43, Tryz.ntmps43
            go_wp2_with (first | (go_at_call 80; refine (num_Whole.calls a1 0 true _ A1.out).mono ?_; rintro e w1 ⟨rfl, nd, rfl⟩) | (go_at_call 59; refine (num_Good.calls 0 true _ A2.out).mono ?_; rintro e w1 ⟨rfl, nd2, rfl⟩))
            go_ret2
            exact ⟨rfl, by repeat (first | exact Below.refl _ _ | apply below_alloc | apply pw_below_drewN | apply below_drew1 | refine Below.setCell ?_ (by simp) _)⟩
          · rw [if_pos ⟨rfl, rfl, by omega, by omega, c3⟩] at h
            obtain ⟨⟨q1, q2⟩, A30, h⟩ := Option.bind_eq_some_iff.mp h
            have A3 := Aside0.mk A30
            have HH := Aside0.mk h
            clear A30 h
            have m1 : -64 ≤ t1 := by omega
            have m2 : t1 ≤ 64 := by omega
            have hz : a0 = 0 ∨ (a0 ≠ 0) := by omega
            rcases hz with c4 | c4
            · have c4b : (a0 == 0) = true := beq_iff_eq.mpr c4
              have c5b : (t1 == 0) = false := beq_eq_false_iff_ne.mpr (fun e => c3 ⟨c4, e⟩)
              clear c3 c4 c1 c2
              by_cases c6 : t1 < 0
              · have c6b : decide (t1 < 0) = true := decide_eq_true c6
                have c7b : decide (t1 < -t1) = true := decide_eq_true (by omega)
                have c8b : (t1 < -t1) = True := eq_true (by omega)
                have c9b : (-t1 ≤ t1) = False := eq_false (by omega)
                have e3 : (max t1 (-t1)).toNat = (-t1).toNat := by omega
                rw [e3] at A3
                obtain ⟨n, hn⟩ : ∃ n : Nat, n = (-t1).toNat := ⟨_, rfl⟩
                rw [← hn] at A3
                have Hn := Aside0.mk hn
                have n64 : n ≤ 64 := by omega
                have nn : (n : Int) = -t1 := by omega
                have Nn := Aside0.mk nn
                clear hn e3 nn
                cases q2 with
                | false =>
                  have h := HH.out
                  rw [if_neg (by simp)] at h
                  simp only [Option.some.injEq, Prod.mk.injEq] at h
                  obtain ⟨rfl, rfl⟩ := h
                  clear c6
                  go_enter Tryz.func43, Tryz.ntmps43
                  go_wp2_with (first | (go_at_call 80; refine (num_Whole.calls a1 t1 true _ A1.out).mono ?_; rintro e w1 ⟨rfl, nd, rfl⟩) | (go_at_call 59; refine (num_Good.calls a0 true _ A2.out).mono ?_; rintro e w1 ⟨rfl, nd2, rfl⟩) | (go_at_call 81; refine (num_Pow.times k n (-t1) (by have := Nn.out; omega) true 10000 a0 (q1, false) w _ w.heap.size (w.heap.size + 1) (w.heap.size + 1 + 1) w.heap.size A3.out (by omega) (by omega) (by omega) (by omega) (by omega) (by omega) (num_Pow.start w nd nd2 a0)).mono ?_; rintro e w3 ⟨rfl, hin⟩; have HIN := Aside0.mk hin; have e1 : w3.cell? ⟨w.heap.size + 1, 0, none⟩ = some (.bool false) := (HIN.out.1).cell 0; have e2 : w3.cell? ⟨w.heap.size + 1 + 1, 0, none⟩ = some (.int .i64 q1) := (HIN.out.2.1).cell 0; clear hin))
                  go_ret2
                  exact ⟨rfl, HIN.out.2.2.2⟩
                | true =>
                  have h := HH.out
                  rw [if_pos rfl, if_pos c6] at h
                  have A4 := Aside0.mk h
                  clear h c6
                  go_enter Tryz.func43, Tryz.ntmps43
                  go_wp2_with (first | (go_at_call 80; refine (num_Whole.calls a1 t1 true _ A1.out).mono ?_; rintro e w1 ⟨rfl, nd, rfl⟩) | (go_at_call 59; refine (num_Good.calls a0 true _ A2.out).mono ?_; rintro e w1 ⟨rfl, nd2, rfl⟩) | (go_at_call 81; refine (num_Pow.times k n (-t1) (by have := Nn.out; omega) true 10000 a0 (q1, true) w _ w.heap.size (w.heap.size + 1) (w.heap.size + 1 + 1) w.heap.size A3.out (by omega) (by omega) (by omega) (by omega) (by omega) (by omega) (num_Pow.start w nd nd2 a0)).mono ?_; rintro e w3 ⟨rfl, hin⟩; have HIN := Aside0.mk hin; have e1 : w3.cell? ⟨w.heap.size + 1, 0, none⟩ = some (.bool true) := (HIN.out.1).cell 0; have e2 : w3.cell? ⟨w.heap.size + 1 + 1, 0, none⟩ = some (.int .i64 q1) := (HIN.out.2.1).cell 0; clear hin) | (go_at_call 83; refine (num_Div.calls k 10000 q1 r1 r2 _ A4.out).mono ?_; rintro e w4 ⟨rfl, hb4⟩))
                  go_ret2
                  exact ⟨rfl, HIN.out.2.2.2.trans (hb4.mono (Nat.le_of_lt (HIN.out.2.2.1).lt))⟩
              · have c6b : decide (t1 < 0) = false := decide_eq_false c6
                have c7b : decide (t1 < -t1) = false := decide_eq_false (by omega)
                have c8b : (t1 < -t1) = False := eq_false (by omega)
                have c9b : (-t1 ≤ t1) = True := eq_true (by omega)
                have e3 : (max t1 (-t1)).toNat = (t1).toNat := by omega
                rw [e3] at A3
                obtain ⟨n, hn⟩ : ∃ n : Nat, n = (t1).toNat := ⟨_, rfl⟩
                rw [← hn] at A3
                have Hn := Aside0.mk hn
                have n64 : n ≤ 64 := by omega
                have nn : (n : Int) = t1 := by omega
                have Nn := Aside0.mk nn
                clear hn e3 nn
                cases q2 with
                | false =>
                  have h := HH.out
                  rw [if_neg (by simp)] at h
                  simp only [Option.some.injEq, Prod.mk.injEq] at h
                  obtain ⟨rfl, rfl⟩ := h
                  clear c6
                  go_enter Tryz.func43, Tryz.ntmps43
                  go_wp2_with (first | (go_at_call 80; refine (num_Whole.calls a1 t1 true _ A1.out).mono ?_; rintro e w1 ⟨rfl, nd, rfl⟩) | (go_at_call 59; refine (num_Good.calls a0 true _ A2.out).mono ?_; rintro e w1 ⟨rfl, nd2, rfl⟩) | (go_at_call 81; refine (num_Pow.times k n t1 (by have := Nn.out; omega) true 10000 a0 (q1, false) w _ w.heap.size (w.heap.size + 1) (w.heap.size + 1 + 1) w.heap.size A3.out (by omega) (by omega) (by omega) (by omega) (by omega) (by omega) (num_Pow.start w nd nd2 a0)).mono ?_; rintro e w3 ⟨rfl, hin⟩; have HIN := Aside0.mk hin; have e1 : w3.cell? ⟨w.heap.size + 1, 0, none⟩ = some (.bool false) := (HIN.out.1).cell 0; have e2 : w3.cell? ⟨w.heap.size + 1 + 1, 0, none⟩ = some (.int .i64 q1) := (HIN.out.2.1).cell 0; clear hin))
                  go_ret2
                  exact ⟨rfl, HIN.out.2.2.2⟩
                | true =>
                  have h := HH.out
                  rw [if_pos rfl, if_neg c6] at h
                  simp only [Option.some.injEq, Prod.mk.injEq] at h
                  obtain ⟨rfl, rfl⟩ := h
                  clear c6
                  go_enter Tryz.func43, Tryz.ntmps43
                  go_wp2_with (first | (go_at_call 80; refine (num_Whole.calls a1 t1 true _ A1.out).mono ?_; rintro e w1 ⟨rfl, nd, rfl⟩) | (go_at_call 59; refine (num_Good.calls a0 true _ A2.out).mono ?_; rintro e w1 ⟨rfl, nd2, rfl⟩) | (go_at_call 81; refine (num_Pow.times k n t1 (by have := Nn.out; omega) true 10000 a0 (q1, true) w _ w.heap.size (w.heap.size + 1) (w.heap.size + 1 + 1) w.heap.size A3.out (by omega) (by omega) (by omega) (by omega) (by omega) (by omega) (num_Pow.start w nd nd2 a0)).mono ?_; rintro e w3 ⟨rfl, hin⟩; have HIN := Aside0.mk hin; have e1 : w3.cell? ⟨w.heap.size + 1, 0, none⟩ = some (.bool true) := (HIN.out.1).cell 0; have e2 : w3.cell? ⟨w.heap.size + 1 + 1, 0, none⟩ = some (.int .i64 q1) := (HIN.out.2.1).cell 0; clear hin))
                  go_ret2
                  exact ⟨rfl, HIN.out.2.2.2⟩
            · have c4b : (a0 == 0) = false := beq_eq_false_iff_ne.mpr c4
              clear c3 c4 c1 c2
              by_cases c6 : t1 < 0
              · have c6b : decide (t1 < 0) = true := decide_eq_true c6
                have c7b : decide (t1 < -t1) = true := decide_eq_true (by omega)
                have c8b : (t1 < -t1) = True := eq_true (by omega)
                have c9b : (-t1 ≤ t1) = False := eq_false (by omega)
                have e3 : (max t1 (-t1)).toNat = (-t1).toNat := by omega
                rw [e3] at A3
                obtain ⟨n, hn⟩ : ∃ n : Nat, n = (-t1).toNat := ⟨_, rfl⟩
                rw [← hn] at A3
                have Hn := Aside0.mk hn
                have n64 : n ≤ 64 := by omega
                have nn : (n : Int) = -t1 := by omega
                have Nn := Aside0.mk nn
                clear hn e3 nn
                cases q2 with
                | false =>
                  have h := HH.out
                  rw [if_neg (by simp)] at h
                  simp only [Option.some.injEq, Prod.mk.injEq] at h
                  obtain ⟨rfl, rfl⟩ := h
                  clear c6
                  go_enter Tryz.func43, Tryz.ntmps43
                  go_wp2_with (first | (go_at_call 80; refine (num_Whole.calls a1 t1 true _ A1.out).mono ?_; rintro e w1 ⟨rfl, nd, rfl⟩) | (go_at_call 59; refine (num_Good.calls a0 true _ A2.out).mono ?_; rintro e w1 ⟨rfl, nd2, rfl⟩) | (go_at_call 81; refine (num_Pow.times k n (-t1) (by have := Nn.out; omega) true 10000 a0 (q1, false) w _ w.heap.size (w.heap.size + 1) (w.heap.size + 1 + 1) w.heap.size A3.out (by omega) (by omega) (by omega) (by omega) (by omega) (by omega) (num_Pow.start w nd nd2 a0)).mono ?_; rintro e w3 ⟨rfl, hin⟩; have HIN := Aside0.mk hin; have e1 : w3.cell? ⟨w.heap.size + 1, 0, none⟩ = some (.bool false) := (HIN.out.1).cell 0; have e2 : w3.cell? ⟨w.heap.size + 1 + 1, 0, none⟩ = some (.int .i64 q1) := (HIN.out.2.1).cell 0; clear hin))
                  go_ret2
                  exact ⟨rfl, HIN.out.2.2.2⟩
                | true =>
                  have h := HH.out
                  rw [if_pos rfl, if_pos c6] at h
                  have A4 := Aside0.mk h
                  clear h c6
                  go_enter Tryz.func43, Tryz.ntmps43
                  go_wp2_with (first | (go_at_call 80; refine (num_Whole.calls a1 t1 true _ A1.out).mono ?_; rintro e w1 ⟨rfl, nd, rfl⟩) | (go_at_call 59; refine (num_Good.calls a0 true _ A2.out).mono ?_; rintro e w1 ⟨rfl, nd2, rfl⟩) | (go_at_call 81; refine (num_Pow.times k n (-t1) (by have := Nn.out; omega) true 10000 a0 (q1, true) w _ w.heap.size (w.heap.size + 1) (w.heap.size + 1 + 1) w.heap.size A3.out (by omega) (by omega) (by omega) (by omega) (by omega) (by omega) (num_Pow.start w nd nd2 a0)).mono ?_; rintro e w3 ⟨rfl, hin⟩; have HIN := Aside0.mk hin; have e1 : w3.cell? ⟨w.heap.size + 1, 0, none⟩ = some (.bool true) := (HIN.out.1).cell 0; have e2 : w3.cell? ⟨w.heap.size + 1 + 1, 0, none⟩ = some (.int .i64 q1) := (HIN.out.2.1).cell 0; clear hin) | (go_at_call 83; refine (num_Div.calls k 10000 q1 r1 r2 _ A4.out).mono ?_; rintro e w4 ⟨rfl, hb4⟩))
                  go_ret2
                  exact ⟨rfl, HIN.out.2.2.2.trans (hb4.mono (Nat.le_of_lt (HIN.out.2.2.1).lt))⟩
              · have c6b : decide (t1 < 0) = false := decide_eq_false c6
                have c7b : decide (t1 < -t1) = false := decide_eq_false (by omega)
                have c8b : (t1 < -t1) = False := eq_false (by omega)
                have c9b : (-t1 ≤ t1) = True := eq_true (by omega)
                have e3 : (max t1 (-t1)).toNat = (t1).toNat := by omega
                rw [e3] at A3
                obtain ⟨n, hn⟩ : ∃ n : Nat, n = (t1).toNat := ⟨_, rfl⟩
                rw [← hn] at A3
                have Hn := Aside0.mk hn
                have n64 : n ≤ 64 := by omega
                have nn : (n : Int) = t1 := by omega
                have Nn := Aside0.mk nn
                clear hn e3 nn
                cases q2 with
                | false =>
                  have h := HH.out
                  rw [if_neg (by simp)] at h
                  simp only [Option.some.injEq, Prod.mk.injEq] at h
                  obtain ⟨rfl, rfl⟩ := h
                  clear c6
                  go_enter Tryz.func43, Tryz.ntmps43
                  go_wp2_with (first | (go_at_call 80; refine (num_Whole.calls a1 t1 true _ A1.out).mono ?_; rintro e w1 ⟨rfl, nd, rfl⟩) | (go_at_call 59; refine (num_Good.calls a0 true _ A2.out).mono ?_; rintro e w1 ⟨rfl, nd2, rfl⟩) | (go_at_call 81; refine (num_Pow.times k n t1 (by have := Nn.out; omega) true 10000 a0 (q1, false) w _ w.heap.size (w.heap.size + 1) (w.heap.size + 1 + 1) w.heap.size A3.out (by omega) (by omega) (by omega) (by omega) (by omega) (by omega) (num_Pow.start w nd nd2 a0)).mono ?_; rintro e w3 ⟨rfl, hin⟩; have HIN := Aside0.mk hin; have e1 : w3.cell? ⟨w.heap.size + 1, 0, none⟩ = some (.bool false) := (HIN.out.1).cell 0; have e2 : w3.cell? ⟨w.heap.size + 1 + 1, 0, none⟩ = some (.int .i64 q1) := (HIN.out.2.1).cell 0; clear hin))
                  go_ret2
                  exact ⟨rfl, HIN.out.2.2.2⟩
                | true =>
                  have h := HH.out
                  rw [if_pos rfl, if_neg c6] at h
                  simp only [Option.some.injEq, Prod.mk.injEq] at h
                  obtain ⟨rfl, rfl⟩ := h
                  clear c6
                  go_enter Tryz.func43, Tryz.ntmps43
                  go_wp2_with (first | (go_at_call 80; refine (num_Whole.calls a1 t1 true _ A1.out).mono ?_; rintro e w1 ⟨rfl, nd, rfl⟩) | (go_at_call 59; refine (num_Good.calls a0 true _ A2.out).mono ?_; rintro e w1 ⟨rfl, nd2, rfl⟩) | (go_at_call 81; refine (num_Pow.times k n t1 (by have := Nn.out; omega) true 10000 a0 (q1, true) w _ w.heap.size (w.heap.size + 1) (w.heap.size + 1 + 1) w.heap.size A3.out (by omega) (by omega) (by omega) (by omega) (by omega) (by omega) (num_Pow.start w nd nd2 a0)).mono ?_; rintro e w3 ⟨rfl, hin⟩; have HIN := Aside0.mk hin; have e1 : w3.cell? ⟨w.heap.size + 1, 0, none⟩ = some (.bool true) := (HIN.out.1).cell 0; have e2 : w3.cell? ⟨w.heap.size + 1 + 1, 0, none⟩ = some (.int .i64 q1) := (HIN.out.2.1).cell 0; clear hin))
                  go_ret2
                  exact ⟨rfl, HIN.out.2.2.2⟩
/-! ### num_decimal: function 136 -/
def num_decimal.l0 : Nat → List Int → Int → Option (ByteArray)
  | 0, _, _ => none
  | k + 1, L, u => if L.length < 20 then (if u / 10 = 0 then (some (strOfNums ((48 + u % 10) :: L))) else (num_decimal.l0 k ((48 + u % 10) :: L) (u / 10))) else none
def num_decimal.f (k : Nat) (a0 : Int) : Option (ByteArray) := if 0 ≤ a0 then (if a0 ≤ 18446744073709551615 then (num_decimal.l0 k [] a0) else none) else none
theorem num_decimal.mono_l : ∀ k, (∀ y0 y1, LeO (num_decimal.l0 k y0 y1) (num_decimal.l0 (k + 1) y0 y1))
  | 0 => fun _ _ r h => by simp [num_decimal.l0] at h
  | k + 1 => by
    have ih0 := num_decimal.mono_l k
    · intro y0 y1
      unfold num_decimal.l0
      repeat' first
      | (with_reducible exact ih0 _ _)
      | (with_reducible exact LeO.refl _)
      | (with_reducible exact LeO.none _)
      | (with_reducible refine LeO.ite ?_ ?_)
theorem num_decimal.mono : ∀ a0 k, LeO (num_decimal.f k a0) (num_decimal.f (k + 1) a0) := by
  intro a0 k
  have ih0 := num_decimal.mono_l k
  unfold num_decimal.f
  repeat' first
      | (with_reducible exact ih0 _ _)
      | (with_reducible exact LeO.refl _)
      | (with_reducible exact LeO.none _)
      | (with_reducible refine LeO.ite ?_ ?_)
set_option maxHeartbeats 8000000 in
set_option maxRecDepth 100000 in
theorem num_decimal.calls (k : Nat) (a0 : Int) (r : ByteArray) (w : World) (h : num_decimal.f k a0 = some r) :
    Calls Tryz.prog 136 #[.int .u64 a0] w fun e w' => e = .returned (.string r) ∧ Below w.heap.size w w' := by
  unfold num_decimal.f at h
  by_cases c0 : 0 ≤ a0
  · rw [if_pos c0] at h
    by_cases c1 : a0 ≤ 18446744073709551615
    · rw [if_pos c1] at h
      have H' := Aside0.mk h
      clear h
      go_enter Tryz.func136, Tryz.ntmps136
      go_wp2
      go_loopg [0, 4] k (fun kq v0 v4 w' => ∃ (u : Int) (a : Nat) (L : List Int), v0 = .int .u64 u ∧ v4 = .int .i64 (a : Int) ∧ Aside0 (num_decimal.l0 kq L u = some r) ∧ Aside0 (kq ≤ k) ∧ Aside0 (0 ≤ u ∧ u ≤ 18446744073709551615) ∧ Aside0 (a + L.length = 20) ∧ Aside0 (X.BlkM w' w.heap.size 118 (0, 0) ((List.replicate a 0 ++ L).map (Value.int .u8)).toArray) ∧ Aside0 (Below w.heap.size w w'))
      case atStart => exact ⟨_, 20, [], rfl, rfl, H', ⟨Nat.le_refl _⟩, ⟨c0, c1⟩, ⟨rfl⟩, ⟨X.BlkM.new _ _ _ _⟩, ⟨(Below.refl _ _).alloc (Nat.le_refl _) _⟩⟩
      case round =>
        clear H' c0 c1
        obtain ⟨u, a, L, rfl, rfl, HA, HK, HU, HL, HC, HB⟩ := hrel
        cases gk with
        | zero => exact absurd HA.out (by simp [num_decimal.l0])
        | succ k1 =>
          have H := HA.out
          clear HA
          simp only [num_decimal.l0] at H
          have hl := HL.out
          by_cases c2 : L.length < 20
          · rw [if_pos c2] at H
            obtain ⟨b, rfl⟩ : ∃ b, a = b + 1 := ⟨a - 1, by omega⟩
            have u0 := HU.out.1
            have u1 := HU.out.2
            have hb : (b : Int) < 20 := by omega
            have hb0 : (0 : Int) ≤ b := by omega
            have hcc := HC.out.cell b
            have hlt : b < (List.replicate (b + 1) 0 ++ L).length := by simp; omega
            rw [X.at_list _ b hlt] at hcc
            generalize (List.replicate (b + 1) 0 ++ L)[b]'hlt = z at hcc
            have hff : (wr.frozen? ⟨w.heap.size, b, none⟩) = false := by
              have := HC.out
              unfold X.BlkM at this
              simp [World.frozen?, this]
            have hw1 : wrap64 (((b + 1 : Nat) : Int) - 1) = (b : Int) := by unfold wrap64; omega
            have hw2 : ((b + 1 : Nat) : Int) - 1 = (b : Int) := by omega
            have HN := HC.out.set_ b (.int .u8 (48 + u % 10))
            rw [X.set_list, X.rep_set] at HN
            have HN' := Aside0.mk HN
            clear HN hlt
            by_cases c3 : u / 10 = 0
            · rw [if_pos c3] at H
              have c3b : (u / 10 == 0) = true := beq_iff_eq.mpr c3
              obtain rfl := Option.some.inj H
              clear c3 hl
              have ha : Tryz.prog.arrayLen 118 = 20 := by kernel_rfl
              have hse : ∀ W : World, (sizeOf (Tryz.prog.elem 118)).run Tryz.prog W = .ok 1 W := fun W => by kernel_rfl
              have hsl : ∀ W : World, (Instr.sliceAt 118 (.pointer (some ⟨w.heap.size, 0, none⟩)) (some (.int .i64 (b : Int))) none none).run Tryz.prog W = .ok (.slice (some ⟨w.heap.size, b, none⟩) (20 - b) (20 - b)) W := fun W => by
                rw [run_sliceAt_array_l W 118 _ (by kernel_rfl) .i64 (b : Int) hb0 (by rw [ha]; omega), hse, ha]
                simp only [Result.andThen, slicedAt, Int.toNat_natCast, Nat.mul_one]
                rw [if_neg (by omega)]
                simp only [Addr.add]
                by_cases e : b = 0
                · simp [e]
                · simp [e]
              have hcv := run_convert_bytes_arg (P := Tryz.prog) (wr.setCell ⟨w.heap.size, b, none⟩ (.int .u8 (48 + u % 10))) 90 5 Tryz.underlying90 Tryz.underlying5 w.heap.size b (20 - b) (20 - b) ((48 + u % 10) :: L) (by have := HL.out; simp; omega) (fun i hi => by
                have hq := HN'.out.cell (b + i)
                have hlen := HL.out
                have hlt : b + i < (List.replicate b 0 ++ (48 + u % 10) :: L).length := by simp; omega
                rw [X.at_list _ _ hlt] at hq
                rw [hq]
                have e : (List.replicate b 0 ++ (48 + u % 10) :: L)[b + i]'hlt = ((48 + u % 10) :: L).getD i 0 := by
                  have hi' : i < ((48 + u % 10) :: L).length := by simp; omega
                  rw [List.getElem_append_right (by simp)]
                  rw [List.getD_eq_getElem?_getD, List.getElem?_eq_getElem hi']
                  simp
                rw [e]) 9 Tryz.underlying9
              clear ha hse
              go_wp2
              go_ret
              exact ⟨rfl, HB.out.setCell (Nat.le_refl _) _⟩
            · rw [if_neg c3] at H
              have c3b : (u / 10 == 0) = false := beq_eq_false_iff_ne.mpr c3
              have H' := Aside0.mk H
              clear H c3 hl
              go_wp2
              go_roundg k1
              case measure => have := HK.out; omega
              case rel => exact ⟨_, b, _, rfl, rfl, H', ⟨by have := HK.out; omega⟩, ⟨by omega, by omega⟩, ⟨by have := HL.out; simp; omega⟩, HN', ⟨HB.out.setCell (Nat.le_refl _) _⟩⟩
          · rw [if_neg c2] at H
            exact absurd H (by simp)
    · rw [if_neg c1] at h
      exact absurd h (by simp)
  · rw [if_neg c0] at h
    exact absurd h (by simp)
/-! ### strings_trimRightByte: function 141 -/
def strings_trimRightByte.l0 : Nat → ByteArray → Int → Option (ByteArray)
  | 0, _, _ => none
  | k + 1, x0, x1 => if (x0.size : Int) > 0 then (if 0 ≤ (wrap64 ((x0.size : Int) - 1)) then (if (wrap64 ((x0.size : Int) - 1)) < (x0.size : Int) then (if (bt x0 (wrap64 ((x0.size : Int) - 1))) = x1 then (if (wrap64 ((x0.size : Int) - 1)) ≤ (x0.size : Int) then (strings_trimRightByte.l0 k (x0.extract 0 ((wrap64 ((x0.size : Int) - 1)) : Int).toNat) x1) else (none)) else (some x0)) else (none)) else (none)) else (some x0)
def strings_trimRightByte.f (k : Nat) (a0 : ByteArray) (a1 : Int) : Option (ByteArray) := strings_trimRightByte.l0 k a0 a1
theorem strings_trimRightByte.mono_l : ∀ k, (∀ y0 y1, LeO (strings_trimRightByte.l0 k y0 y1) (strings_trimRightByte.l0 (k + 1) y0 y1))
  | 0 => fun _ _ r h => by simp [strings_trimRightByte.l0] at h
  | k + 1 => by
    have ih0 := strings_trimRightByte.mono_l k
    · intro y0 y1
      unfold strings_trimRightByte.l0
      repeat' first
      | (with_reducible exact ih0 _ _)
      | (with_reducible exact LeO.refl _)
      | (with_reducible exact LeO.none _)
      | (with_reducible refine LeO.ite ?_ ?_)
      | (with_reducible refine LeO.bind ?_ (fun _ => ?_))
      | exact ih0 _ _
      | exact LeO.none _
      | refine LeO.ite ?_ ?_
      | refine LeO.bind ?_ (fun _ => ?_)
theorem strings_trimRightByte.mono : ∀ a0 a1 k, LeO (strings_trimRightByte.f k a0 a1) (strings_trimRightByte.f (k + 1) a0 a1) := by
  intro a0 a1 k
  have ih0 := strings_trimRightByte.mono_l k
  unfold strings_trimRightByte.f
  repeat' first
      | (with_reducible exact ih0 _ _)
      | (with_reducible exact LeO.refl _)
      | (with_reducible exact LeO.none _)
      | (with_reducible refine LeO.ite ?_ ?_)
      | (with_reducible refine LeO.bind ?_ (fun _ => ?_))
      | exact ih0 _ _
      | exact LeO.none _
      | refine LeO.ite ?_ ?_
      | refine LeO.bind ?_ (fun _ => ?_)
set_option maxHeartbeats 8000000 in
set_option maxRecDepth 100000 in
theorem strings_trimRightByte.calls (k : Nat) (a0 : ByteArray) (a1 : Int) (r : ByteArray) (w : World) (h : strings_trimRightByte.f k a0 a1 = some r) :
    Calls Tryz.prog 141 #[.string a0, .int .u8 a1] w fun e w' => e = .returned (.string r) ∧ Drawn0 w w' := by
  have H : (strings_trimRightByte.l0 k a0 a1) = some r := h
  clear h
  have H' := Aside0.mk H
  clear H
  go_enter Tryz.func141, Tryz.ntmps141
  go_wp2
  go_loopg [0] k (fun kq v0 w' => ∃ (x0_1 : ByteArray), v0 = .string x0_1 ∧ Aside0 (strings_trimRightByte.l0 kq x0_1 a1 = some r) ∧ Aside0 (kq ≤ k) ∧ Drawn0 w w')
  case atStart => exact ⟨(a0), (by first | rfl | (simp; done) | (simp [*]; done) | (simp [Go.Proofs.YtnpcmgajplikbaaGreatDoor.X.bne_nil]; done)), H', ⟨Nat.le_refl _⟩, by repeat (first | exact Drawn0.refl _ | apply Drawn0.step)⟩
  case round =>
    clear H'
    try clear c1
    try clear p2
    obtain ⟨x0_1, rfl, HA, HK1, ⟨m1, rfl⟩⟩ := hrel
    cases gk with
    | zero => exact absurd HA.out (by simp [strings_trimRightByte.l0])
    | succ k1 =>
      have H := HA.out
      clear HA
      simp only [strings_trimRightByte.l0] at H
      by_cases c3 : (x0_1.size : Int) > 0
      · rw [if_pos c3] at H
        have c3b0 : decide (0 < (x0_1.size : Int)) = true := decide_eq_true c3
        have c3b1 : decide (0 < x0_1.size) = true := decide_eq_true (by omega)
        clear c3
        obtain ⟨ji4, hji4⟩ : ∃ j_ : Int, (wrap64 ((x0_1.size : Int) - 1)) = j_ := ⟨_, rfl⟩
        replace H : (if 0 ≤ (ji4) then (if (ji4) < (x0_1.size : Int) then (if (bt x0_1 (ji4)) = a1 then (if (ji4) ≤ (x0_1.size : Int) then (strings_trimRightByte.l0 k1 (x0_1.extract 0 ((ji4) : Int).toNat) a1) else (none)) else (some x0_1)) else (none)) else (none)) = some r := by first | (rw [hji4] at H; exact H) | (simp only [hji4] at H ⊢; exact H)
        have hji4w : (IntKind.i64.wrap ((x0_1.size : Int) - 1)) = ji4 := (i64_w _).trans hji4
        by_cases c5 : 0 ≤ (ji4)
        · rw [if_pos c5] at H
          have c5b0 : decide (0 ≤ (ji4)) = true := decide_eq_true c5
          clear c5
          by_cases c6 : (ji4) < (x0_1.size : Int)
          · rw [if_pos c6] at H
            have c6b0 : decide ((ji4) < (x0_1.size : Int)) = true := decide_eq_true c6
            clear c6
            by_cases c8 : (bt x0_1 (ji4)) = a1
            · rw [if_pos c8] at H
              have c8b0 : ((bt x0_1 (ji4)) == a1) = true := beq_iff_eq.mpr c8
              have c8b1 : ((bt x0_1 (ji4)) != a1) = false := bne_eq_false_iff_eq.mpr c8
              clear c8
              have c9b0 := eq_true (of_decide_eq_true (by first | (with_reducible assumption) | assumption) : 0 ≤ (ji4))
              by_cases c10 : (ji4) ≤ (x0_1.size : Int)
              · rw [if_pos c10] at H
                have c10b0 := eq_true c10
                have c10b1 : decide ((ji4) ≤ (x0_1.size : Int)) = true := decide_eq_true c10
                clear c10
                have H' := Aside0.mk H
                clear H
                have p7 : 0 ≤ ((ji4) : Int) := of_decide_eq_true (by first | (with_reducible assumption) | assumption)
                have q7 : (ji4) < (x0_1.size : Int) := of_decide_eq_true (by first | (with_reducible assumption) | assumption)
                have hx7 := bt_at x0_1 (ji4)
                replace p7 := eq_true p7
                replace q7 := eq_true q7
                go_wp2
                go_roundg k1
                case measure => have := HK1.out; omega
                case rel => exact ⟨(x0_1.extract 0 ((ji4) : Int).toNat), (by first | rfl | (simp; done) | (simp only [← hji4] <;> (first | rfl | simp)) | (simp [*]; done)), H', ⟨by have := HK1.out; omega⟩, by repeat (first | exact Drawn0.refl _ | apply Drawn0.step)⟩
              · rw [if_neg c10] at H
                exact absurd H (by simp)
            · rw [if_neg c8] at H
              have c8b0 : ((bt x0_1 (ji4)) == a1) = false := beq_eq_false_iff_ne.mpr c8
              have c8b1 : ((bt x0_1 (ji4)) != a1) = true := bne_iff_ne.mpr c8
              obtain rfl := Option.some.inj H
              have p7 : 0 ≤ ((ji4) : Int) := of_decide_eq_true (by first | (with_reducible assumption) | assumption)
              have q7 : (ji4) < (x0_1.size : Int) := of_decide_eq_true (by first | (with_reducible assumption) | assumption)
              have hx7 := bt_at x0_1 (ji4)
              replace p7 := eq_true p7
              replace q7 := eq_true q7
              go_wp2
              go_ret
              exact ⟨by first | rfl | (simp; done) | (simp only [← hji4] <;> (first | rfl | simp)) | (simp [*]; done), by repeat (first | exact Drawn0.refl _ | apply Drawn0.step)⟩
          · rw [if_neg c6] at H
            exact absurd H (by simp)
        · rw [if_neg c5] at H
          exact absurd H (by simp)
      · rw [if_neg c3] at H
        have c3b0 : decide (0 < (x0_1.size : Int)) = false := decide_eq_false c3
        have c3b1 : decide (0 < x0_1.size) = false := decide_eq_false (by omega)
        clear c3
        obtain rfl := Option.some.inj H
        go_wp2
        go_ret
        exact ⟨by first | rfl | (simp; done) | (simp [*]; done) | (simp [Go.Proofs.YtnpcmgajplikbaaGreatDoor.X.bne_nil]; done), by repeat (first | exact Drawn0.refl _ | apply Drawn0.step)⟩

-- NOT PRINTED: function 142 (strings_makeASCIISet)

-- NOT PRINTED: function 147 (strings_asciiSet_contains)

-- NOT PRINTED: function 143 (strings_trimRightASCII)

/-! ### utf8_RuneStart: function 154 -/
def utf8_RuneStart.f (a0 : Int) : Option (Bool) := some ((Go.bits .and .u8 a0 192) != 128)
set_option maxHeartbeats 8000000 in
set_option maxRecDepth 100000 in
theorem utf8_RuneStart.calls (a0 : Int) (r : Bool) (w : World) (h : utf8_RuneStart.f a0 = some r) :
    Calls Tryz.prog 154 #[.int .u8 a0] w fun e w' => e = .returned (.bool r) ∧ Drawn0 w w' := by
  have H : (some ((Go.bits .and .u8 a0 192) != 128)) = some r := h
  clear h
  obtain rfl := Option.some.inj H
  go_enter Tryz.func154, Tryz.ntmps154
  go_wp2
  go_ret
  exact ⟨by first | rfl | (simp; done) | (simp [*]; done) | (simp [Go.Proofs.YtnpcmgajplikbaaGreatDoor.X.bne_nil]; done), by repeat (first | exact Drawn0.refl _ | apply Drawn0.step)⟩

-- NOT PRINTED: function 159 (utf8_decodeRuneInStringSlow)

-- NOT PRINTED: function 155 (utf8_DecodeRuneInString)

-- NOT PRINTED: function 148 (utf8_DecodeLastRuneInString)

-- NOT PRINTED: function 160 (strings_IndexByte)

end Go.Proofs.YtnpcmgajplikbaaGreatDoor.P
