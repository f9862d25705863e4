-- Written by a program of this session (wip/tools/xprint.py), out of the seat's translation. Not trusted: Lean checks it.
import Derived.Test.YtficjmgofbdohaaDoorPx0
import Derived.Test.YtficjmgofbdohaaDoorPx1
import Derived.Test.YtficjmgofbdohaaDoorPx7
import Derived.Test.YtficjmgofbdohaaDoorPx8
namespace Go.Proofs.YtficjmgofbdohaaDoor.P
open Go.RowKit Go.Proofs.YtficjmgofbdohaaDoorW.PrintWords Go.Proofs.YtficjmgofbdohaaDoorW.PrintLast Go.Proofs.YtficjmgofbdohaaDoorW.PrintMore
attribute [local go_sem] max2_int min2_int max_two min_two max_three min_three max_four min_four   -- for this text's walks alone
set_option linter.unusedVariables false
set_option linter.unusedSimpArgs false

/-! ### octavolaw05_NumRounded: function 5 -/
mutual
def octavolaw05_NumRounded.l0 : Nat → Int → Int → Int → Int → Option (Bool)
  | 0, _, _, _, _ => none
  | k + 1, x0, x5, x6, x7 => if x7 < 4 then (octavolaw05_NumRounded.l0 k x0 x5 (wrap64 (x6 * 10)) (wrap64 (x7 + 1))) else ((num_Round.f k x0 x5 4).bind fun bt211 => ((num_Round.f k x0 x5 0).bind fun bt213 => ((num_Round.f k x0 x5 3).bind fun bt215 => (if bt211.2 = true then (if bt213.2 = true then (octavolaw05_NumRounded.j1 k x0 x6 bt211.1 bt213.1 bt215.1 (!bt215.2)) else (octavolaw05_NumRounded.j1 k x0 x6 bt211.1 bt213.1 bt215.1 true)) else (octavolaw05_NumRounded.j1 k x0 x6 bt211.1 bt213.1 bt215.1 true)))))
def octavolaw05_NumRounded.j1 : Nat → Int → Int → Int → Int → Int → Bool → Option (Bool)
  | 0, _, _, _, _, _, _ => none
  | k + 1, x0, x6, x8, x10, x12, x56 => if x56 = true then ((octavolaw05_lives.f k).bind fun t217 => (some t217)) else (if x8 ≤ x0 then (if x0 ≤ x12 then (if x10 = x8 then (if x12 = x8 then (if x6 = 0 then (none) else (if (Int.tmod x8 x6) = 0 then ((octavolaw05_lives.f k).bind fun t218 => (some t218)) else (some false))) else (if (wrap64 (x12 - x8)) = x6 then (if x6 = 0 then (none) else (if (Int.tmod x8 x6) = 0 then ((octavolaw05_lives.f k).bind fun t219 => (some t219)) else (some false))) else (some false))) else (if x10 = x12 then (if x12 = x8 then (if x6 = 0 then (none) else (if (Int.tmod x8 x6) = 0 then ((octavolaw05_lives.f k).bind fun t220 => (some t220)) else (some false))) else (if (wrap64 (x12 - x8)) = x6 then (if x6 = 0 then (none) else (if (Int.tmod x8 x6) = 0 then ((octavolaw05_lives.f k).bind fun t221 => (some t221)) else (some false))) else (some false))) else (some false))) else (some false)) else (some false))
end
def octavolaw05_NumRounded.f (k : Nat) (a0 : Int) (a1 : Int) : Option (Bool) := (num_Good.f a0).bind fun t209 => (if t209 = true then (octavolaw05_NumRounded.l0 k a0 (wrap64 ((wrap64 (Int.tmod a1 9)) - 4)) 1 (wrap64 ((wrap64 (Int.tmod a1 9)) - 4))) else ((octavolaw05_lives.f k).bind fun t210 => (some t210)))
theorem octavolaw05_NumRounded.mono_l : ∀ k, (∀ y0 y1 y2 y3, LeO (octavolaw05_NumRounded.l0 k y0 y1 y2 y3) (octavolaw05_NumRounded.l0 (k + 1) y0 y1 y2 y3)) ∧ (∀ y0 y1 y2 y3 y4 y5, LeO (octavolaw05_NumRounded.j1 k y0 y1 y2 y3 y4 y5) (octavolaw05_NumRounded.j1 (k + 1) y0 y1 y2 y3 y4 y5))
  | 0 => ⟨fun _ _ _ _ r h => by simp [octavolaw05_NumRounded.l0] at h, fun _ _ _ _ _ _ r h => by simp [octavolaw05_NumRounded.j1] at h⟩
  | k + 1 => by
    obtain ⟨ih0, ih1⟩ := octavolaw05_NumRounded.mono_l k
    refine ⟨?_, ?_⟩
    · intro y0 y1 y2 y3
      unfold octavolaw05_NumRounded.l0
      repeat' first
      | (with_reducible exact ih0 _ _ _ _)
      | (with_reducible exact ih1 _ _ _ _ _ _)
      | (with_reducible exact num_Round.mono _ _ _ _)
      | (with_reducible exact octavolaw05_lives.mono _)
      | (with_reducible exact LeO.refl _)
      | (with_reducible exact LeO.none _)
      | (with_reducible refine LeO.ite ?_ ?_)
      | (with_reducible refine LeO.bind ?_ (fun _ => ?_))
      | exact ih0 _ _ _ _
      | exact ih1 _ _ _ _ _ _
      | exact num_Round.mono _ _ _ _
      | exact octavolaw05_lives.mono _
      | exact LeO.none _
      | refine LeO.ite ?_ ?_
      | refine LeO.bind ?_ (fun _ => ?_)
    · intro y0 y1 y2 y3 y4 y5
      unfold octavolaw05_NumRounded.j1
      repeat' first
      | (with_reducible exact ih0 _ _ _ _)
      | (with_reducible exact ih1 _ _ _ _ _ _)
      | (with_reducible exact num_Round.mono _ _ _ _)
      | (with_reducible exact octavolaw05_lives.mono _)
      | (with_reducible exact LeO.refl _)
      | (with_reducible exact LeO.none _)
      | (with_reducible refine LeO.ite ?_ ?_)
      | (with_reducible refine LeO.bind ?_ (fun _ => ?_))
      | exact ih0 _ _ _ _
      | exact ih1 _ _ _ _ _ _
      | exact num_Round.mono _ _ _ _
      | exact octavolaw05_lives.mono _
      | exact LeO.none _
      | refine LeO.ite ?_ ?_
      | refine LeO.bind ?_ (fun _ => ?_)
theorem octavolaw05_NumRounded.mono : ∀ a0 a1 k, LeO (octavolaw05_NumRounded.f k a0 a1) (octavolaw05_NumRounded.f (k + 1) a0 a1) := by
  intro a0 a1 k
  obtain ⟨ih0, ih1⟩ := octavolaw05_NumRounded.mono_l k
  unfold octavolaw05_NumRounded.f
  repeat' first
      | (with_reducible exact ih0 _ _ _ _)
      | (with_reducible exact ih1 _ _ _ _ _ _)
      | (with_reducible exact num_Round.mono _ _ _ _)
      | (with_reducible exact octavolaw05_lives.mono _)
      | (with_reducible exact LeO.refl _)
      | (with_reducible exact LeO.none _)
      | (with_reducible refine LeO.ite ?_ ?_)
      | (with_reducible refine LeO.bind ?_ (fun _ => ?_))
      | exact ih0 _ _ _ _
      | exact ih1 _ _ _ _ _ _
      | exact num_Round.mono _ _ _ _
      | exact octavolaw05_lives.mono _
      | exact LeO.none _
      | refine LeO.ite ?_ ?_
      | refine LeO.bind ?_ (fun _ => ?_)
set_option maxHeartbeats 8000000 in
set_option maxRecDepth 100000 in
theorem octavolaw05_NumRounded.calls (k : Nat) (a0 : Int) (a1 : Int) (r : Bool) (w : World) (h : octavolaw05_NumRounded.f k a0 a1 = some r) :
    Calls Tryd.prog 5 #[.int .i64 a0, .int .u64 a1] w fun e w' => e = .returned (.bool r) ∧ Below w.heap.size w w' := by
  have HB := Aside0.mk (Below.refl w.heap.size w)
  have H : ((num_Good.f a0).bind fun t209 => (if t209 = true then (octavolaw05_NumRounded.l0 k a0 (wrap64 ((wrap64 (Int.tmod a1 9)) - 4)) 1 (wrap64 ((wrap64 (Int.tmod a1 9)) - 4))) else ((octavolaw05_lives.f k).bind fun t210 => (some t210)))) = some r := h
  clear h
  replace H := Option.bind_eq_some_iff.mp H
  obtain ⟨t209, A30, H⟩ := H
  replace H : (if t209 = true then (octavolaw05_NumRounded.l0 k a0 (wrap64 ((wrap64 (Int.tmod a1 9)) - 4)) 1 (wrap64 ((wrap64 (Int.tmod a1 9)) - 4))) else ((octavolaw05_lives.f k).bind fun t210 => (some t210))) = some r := H
  have A3 := Aside0.mk A30
  clear A30
  by_cases c4 : t209 = true
  · subst c4
    have H1 : (octavolaw05_NumRounded.l0 k a0 (wrap64 ((wrap64 (Int.tmod a1 9)) - 4)) 1 (wrap64 ((wrap64 (Int.tmod a1 9)) - 4))) = some r := by rw [if_pos rfl] at H; exact H
    clear H
    have H := H1
    clear H1
    have H' := Aside0.mk H
    clear H
    go_enter Tryd.func5, Tryd.ntmps5
    go_wp2_with (first | ((with_reducible refine gate_callee (f := 14) rfl ?_); refine goesL_ (some 19) rfl rfl Tryd.func14 (by kernel_rfl) rfl #[.int .i64 a0] rfl (by (try simp only [List.map_toArray, List.map_cons, List.map_nil]); first | done | rfl | (simp only [List.length_drop, List.length_take]; rfl)) ?_; (with_reducible refine (num_Good.calls a0 true _ A3.out).mono ?_); rintro e w' ⟨rfl, ⟨nd, rfl⟩⟩; refine ⟨_, rfl, ?_⟩))
    go_loopg [6, 7] k (fun kq v6 v7 w' => ∃ (x6_1 : Int) (x7_1 : Int), v6 = .int .i64 x6_1 ∧ v7 = .int .i64 x7_1 ∧ Aside0 (octavolaw05_NumRounded.l0 kq a0 (wrap64 ((wrap64 (Int.tmod a1 9)) - 4)) x6_1 x7_1 = some r) ∧ Aside0 (kq ≤ k) ∧ Aside0 (Below w.heap.size w w'))
    case atStart => exact ⟨(1), (wrap64 ((wrap64 (Int.tmod a1 9)) - 4)), (by first | rfl | (simp; done) | (simp [*]; done)), (by first | rfl | (simp; done) | (simp [*]; done)), H', ⟨Nat.le_refl _⟩, ⟨by repeat (first | (with_reducible first | exact HB.out | apply below_alloc | apply pw_below_drewN | apply below_drew1) | exact HB.out)⟩⟩
    case round =>
      clear H'
      try clear c1
      try clear p2
      try clear c4
      obtain ⟨x6_1, x7_1, rfl, rfl, HA, HK1, HB⟩ := hrel
      cases gk with
      | zero => exact absurd HA.out (by simp [octavolaw05_NumRounded.l0])
      | succ k1 =>
        have H := HA.out
        clear HA
        simp only [octavolaw05_NumRounded.l0] at H
        by_cases c5 : x7_1 < 4
        · rw [if_pos c5] at H
          have c5b0 : decide (x7_1 < 4) = true := decide_eq_true c5
          clear c5
          have H' := Aside0.mk H
          clear H
          go_wp2
          go_roundg k1
          case measure => have := HK1.out; omega
          case rel => exact ⟨(wrap64 (x6_1 * 10)), (wrap64 (x7_1 + 1)), (by first | rfl | (simp; done) | (simp [*]; done)), (by first | rfl | (simp; done) | (simp [*]; done)), H', ⟨by have := HK1.out; omega⟩, ⟨by repeat (first | (with_reducible first | exact HB.out | apply below_alloc | apply pw_below_drewN | apply below_drew1) | exact HB.out)⟩⟩
        · rw [if_neg c5] at H
          have c5b0 : decide (x7_1 < 4) = false := decide_eq_false c5
          clear c5
          replace H := Option.bind_eq_some_iff.mp H
          obtain ⟨⟨t211, t212⟩, A60, H⟩ := H
          replace H : ((num_Round.f k1 a0 (wrap64 ((wrap64 (Int.tmod a1 9)) - 4)) 0).bind fun bt213 => ((num_Round.f k1 a0 (wrap64 ((wrap64 (Int.tmod a1 9)) - 4)) 3).bind fun bt215 => (if t212 = true then (if bt213.2 = true then (octavolaw05_NumRounded.j1 k1 a0 x6_1 t211 bt213.1 bt215.1 (!bt215.2)) else (octavolaw05_NumRounded.j1 k1 a0 x6_1 t211 bt213.1 bt215.1 true)) else (octavolaw05_NumRounded.j1 k1 a0 x6_1 t211 bt213.1 bt215.1 true)))) = some r := H
          have A6 := Aside0.mk A60
          clear A60
          replace H := Option.bind_eq_some_iff.mp H
          obtain ⟨⟨t213, t214⟩, A70, H⟩ := H
          replace H : ((num_Round.f k1 a0 (wrap64 ((wrap64 (Int.tmod a1 9)) - 4)) 3).bind fun bt215 => (if t212 = true then (if t214 = true then (octavolaw05_NumRounded.j1 k1 a0 x6_1 t211 t213 bt215.1 (!bt215.2)) else (octavolaw05_NumRounded.j1 k1 a0 x6_1 t211 t213 bt215.1 true)) else (octavolaw05_NumRounded.j1 k1 a0 x6_1 t211 t213 bt215.1 true))) = some r := H
          have A7 := Aside0.mk A70
          clear A70
          replace H := Option.bind_eq_some_iff.mp H
          obtain ⟨⟨t215, t216⟩, A80, H⟩ := H
          replace H : (if t212 = true then (if t214 = true then (octavolaw05_NumRounded.j1 k1 a0 x6_1 t211 t213 t215 (!t216)) else (octavolaw05_NumRounded.j1 k1 a0 x6_1 t211 t213 t215 true)) else (octavolaw05_NumRounded.j1 k1 a0 x6_1 t211 t213 t215 true)) = some r := H
          have A8 := Aside0.mk A80
          clear A80
          have HC9 := Aside0.mk H
          clear H
          go_upto_region 12 with (first | ((with_reducible refine gate_callee (f := 20) rfl ?_); refine goesL_ (some 32) rfl rfl Tryd.func20 (by kernel_rfl) rfl #[.int .i64 a0, .int .i64 (wrap64 ((wrap64 (Int.tmod a1 9)) - 4)), .int .i64 4] rfl (by (try simp only [List.map_toArray, List.map_cons, List.map_nil]); first | done | rfl | (simp only [List.length_drop, List.length_take]; rfl)) ?_; (with_reducible refine (num_Round.calls k1 a0 (wrap64 ((wrap64 (Int.tmod a1 9)) - 4)) 4 t211 t212 _ A6.out).mono ?_); rintro e w' ⟨rfl, ⟨nd, rfl⟩⟩; refine ⟨_, rfl, ?_⟩) | ((with_reducible refine gate_callee (f := 20) rfl ?_); refine goesL_ (some 38) rfl rfl Tryd.func20 (by kernel_rfl) rfl #[.int .i64 a0, .int .i64 (wrap64 ((wrap64 (Int.tmod a1 9)) - 4)), .int .i64 0] rfl (by (try simp only [List.map_toArray, List.map_cons, List.map_nil]); first | done | rfl | (simp only [List.length_drop, List.length_take]; rfl)) ?_; (with_reducible refine (num_Round.calls k1 a0 (wrap64 ((wrap64 (Int.tmod a1 9)) - 4)) 0 t213 t214 _ A7.out).mono ?_); rintro e w' ⟨rfl, ⟨nd, rfl⟩⟩; refine ⟨_, rfl, ?_⟩) | ((with_reducible refine gate_callee (f := 20) rfl ?_); refine goesL_ (some 44) rfl rfl Tryd.func20 (by kernel_rfl) rfl #[.int .i64 a0, .int .i64 (wrap64 ((wrap64 (Int.tmod a1 9)) - 4)), .int .i64 3] rfl (by (try simp only [List.map_toArray, List.map_cons, List.map_nil]); first | done | rfl | (simp only [List.length_drop, List.length_take]; rfl)) ?_; (with_reducible refine (num_Round.calls k1 a0 (wrap64 ((wrap64 (Int.tmod a1 9)) - 4)) 3 t215 t216 _ A8.out).mono ?_); rintro e w' ⟨rfl, ⟨nd, rfl⟩⟩; refine ⟨_, rfl, ?_⟩))
          (try simp only [Act.put, List.setIfInBounds_toArray, List.set_cons_zero, List.set_cons_succ])
          go_cut [56] (fun v56 wc => ∃ (kq : Nat) (x56_8 : Bool), v56 = .bool x56_8 ∧ Aside0 (octavolaw05_NumRounded.j1 kq a0 x6_1 t211 t213 t215 x56_8 = some r) ∧ Aside0 (kq ≤ k1) ∧ Aside0 (Below w.heap.size w wc))
          case first =>
            have H := HC9.out
            clear HC9
            by_cases c10 : t212 = true
            · subst c10
              have H1 : (if t214 = true then (octavolaw05_NumRounded.j1 k1 a0 x6_1 t211 t213 t215 (!t216)) else (octavolaw05_NumRounded.j1 k1 a0 x6_1 t211 t213 t215 true)) = some r := by rw [if_pos rfl] at H; exact H
              clear H
              have H := H1
              clear H1
              by_cases c11 : t214 = true
              · subst c11
                have H1 : (octavolaw05_NumRounded.j1 k1 a0 x6_1 t211 t213 t215 (!t216)) = some r := by rw [if_pos rfl] at H; exact H
                clear H
                have H := H1
                clear H1
                have H' := Aside0.mk H
                clear H
                go_wp2
                go_meet
                case rel => exact ⟨_, (!t216), (by first | rfl | (simp; done) | (simp [*]; done)), H', ⟨by have := HK1.out; first | omega | exact Nat.le_refl _⟩, ⟨by repeat (first | (with_reducible first | exact HB.out | apply below_alloc | apply pw_below_drewN | apply below_drew1) | exact HB.out)⟩⟩
              · replace c11 := Bool.eq_false_iff.mpr c11
                subst c11
                have H1 : (octavolaw05_NumRounded.j1 k1 a0 x6_1 t211 t213 t215 true) = some r := by rw [if_neg (show ¬ (false = true) by decide)] at H; exact H
                clear H
                have H := H1
                clear H1
                have H' := Aside0.mk H
                clear H
                go_wp2
                go_meet
                case rel => exact ⟨_, (true), (by first | rfl | (simp; done) | (simp [*]; done)), H', ⟨by have := HK1.out; first | omega | exact Nat.le_refl _⟩, ⟨by repeat (first | (with_reducible first | exact HB.out | apply below_alloc | apply pw_below_drewN | apply below_drew1) | exact HB.out)⟩⟩
            · replace c10 := Bool.eq_false_iff.mpr c10
              subst c10
              have H1 : (octavolaw05_NumRounded.j1 k1 a0 x6_1 t211 t213 t215 true) = some r := by rw [if_neg (show ¬ (false = true) by decide)] at H; exact H
              clear H
              have H := H1
              clear H1
              have H' := Aside0.mk H
              clear H
              go_wp2
              go_meet
              case rel => exact ⟨_, (true), (by first | rfl | (simp; done) | (simp [*]; done)), H', ⟨by have := HK1.out; first | omega | exact Nat.le_refl _⟩, ⟨by repeat (first | (with_reducible first | exact HB.out | apply below_alloc | apply pw_below_drewN | apply below_drew1) | exact HB.out)⟩⟩
          case rest =>
            clear HC9
            try clear c1
            try clear c2
            try clear p2
            try clear c4
            try clear c5
            try clear c5b0
            try clear p6
            try clear c10
            try clear c11
            try clear p2
            obtain ⟨kq, x56_8, rfl, HA, HJ8, HB⟩ := hcut
            cases kq with
            | zero => exact absurd HA.out (by simp [octavolaw05_NumRounded.j1])
            | succ kj8 =>
              have H := HA.out
              clear HA
              simp only [octavolaw05_NumRounded.j1] at H
              by_cases c12 : x56_8 = true
              · subst c12
                have H1 : ((octavolaw05_lives.f kj8).bind fun t217 => (some t217)) = some r := by rw [if_pos rfl] at H; exact H
                clear H
                have H := H1
                clear H1
                replace H := Option.bind_eq_some_iff.mp H
                obtain ⟨t217, A130, H⟩ := H
                replace H : (some t217) = some r := H
                have A13 := Aside0.mk A130
                clear A130
                obtain rfl := Option.some.inj H
                go_wp2_with (first | ((with_reducible refine gate_callee (f := 16) rfl ?_); refine goesL_ (some 57) rfl rfl Tryd.func16 (by kernel_rfl) rfl #[] rfl (by (try simp only [List.map_toArray, List.map_cons, List.map_nil]); first | done | rfl | (simp only [List.length_drop, List.length_take]; rfl)) ?_; (with_reducible refine (octavolaw05_lives.calls kj8  t217 _ A13.out).mono ?_); rintro e w14 ⟨rfl, hb⟩; refine ⟨_, rfl, ?_⟩; have n0_ := Aside0.mk (below_step (by repeat (first | (with_reducible first | exact HB.out | apply below_alloc | apply pw_below_drewN | apply below_drew1) | exact HB.out)) hb); clear HB; have HB := n0_; clear n0_; (try clear hb); (try clear hb2); (try clear hk); (try clear hi)))
                go_ret
                exact ⟨by first | rfl | (simp [errW_none, errW_some] <;> rfl) | (simp [*, errW_none, errW_some] <;> rfl), by repeat (first | (with_reducible first | exact HB.out | apply below_alloc | apply pw_below_drewN | apply below_drew1) | exact HB.out)⟩
              · replace c12 := Bool.eq_false_iff.mpr c12
                subst c12
                have H1 : (if t211 ≤ a0 then (if a0 ≤ t215 then (if t213 = t211 then (if t215 = t211 then (if x6_1 = 0 then (none) else (if (Int.tmod t211 x6_1) = 0 then ((octavolaw05_lives.f kj8).bind fun t218 => (some t218)) else (some false))) else (if (wrap64 (t215 - t211)) = x6_1 then (if x6_1 = 0 then (none) else (if (Int.tmod t211 x6_1) = 0 then ((octavolaw05_lives.f kj8).bind fun t219 => (some t219)) else (some false))) else (some false))) else (if t213 = t215 then (if t215 = t211 then (if x6_1 = 0 then (none) else (if (Int.tmod t211 x6_1) = 0 then ((octavolaw05_lives.f kj8).bind fun t220 => (some t220)) else (some false))) else (if (wrap64 (t215 - t211)) = x6_1 then (if x6_1 = 0 then (none) else (if (Int.tmod t211 x6_1) = 0 then ((octavolaw05_lives.f kj8).bind fun t221 => (some t221)) else (some false))) else (some false))) else (some false))) else (some false)) else (some false)) = some r := by rw [if_neg (show ¬ (false = true) by decide)] at H; exact H
                clear H
                have H := H1
                clear H1
                by_cases c15 : t211 ≤ a0
                · rw [if_pos c15] at H
                  have c15b0 : decide (t211 ≤ a0) = true := decide_eq_true c15
                  clear c15
                  by_cases c16 : a0 ≤ t215
                  · rw [if_pos c16] at H
                    have c16b0 : decide (a0 ≤ t215) = true := decide_eq_true c16
                    clear c16
                    by_cases c17 : t213 = t211
                    · rw [if_pos c17] at H
                      have c17b0 : (t213 == t211) = true := beq_iff_eq.mpr c17
                      have c17b1 : (t213 != t211) = false := bne_eq_false_iff_eq.mpr c17
                      clear c17
                      by_cases c18 : t215 = t211
                      · rw [if_pos c18] at H
                        have c18b0 : (t215 == t211) = true := beq_iff_eq.mpr c18
                        have c18b1 : (t215 != t211) = false := bne_eq_false_iff_eq.mpr c18
                        clear c18
                        by_cases c19 : x6_1 = 0
                        · rw [if_pos c19] at H
                          exact absurd H (by simp)
                        · rw [if_neg c19] at H
                          have c19b0 : (x6_1 == 0) = false := beq_eq_false_iff_ne.mpr c19
                          have c19b1 : (x6_1 != 0) = true := bne_iff_ne.mpr c19
                          by_cases c20 : (Int.tmod t211 x6_1) = 0
                          · rw [if_pos c20] at H
                            have c20b0 : ((Int.tmod t211 x6_1) == 0) = true := beq_iff_eq.mpr c20
                            have c20b1 : ((Int.tmod t211 x6_1) != 0) = false := bne_eq_false_iff_eq.mpr c20
                            clear c20
                            replace H := Option.bind_eq_some_iff.mp H
                            obtain ⟨t218, A210, H⟩ := H
                            replace H : (some t218) = some r := H
                            have A21 := Aside0.mk A210
                            clear A210
                            obtain rfl := Option.some.inj H
                            go_wp2_with (first | (go_at_call 16; (with_reducible refine (octavolaw05_lives.calls kj8  t218 _ A21.out).mono ?_); rintro e w22 ⟨rfl, hb⟩; have n0_ := Aside0.mk (below_step (by repeat (first | (with_reducible first | exact HB.out | apply below_alloc | apply pw_below_drewN | apply below_drew1) | exact HB.out)) hb); clear HB; have HB := n0_; clear n0_; (try clear hb); (try clear hb2); (try clear hk); (try clear hi)))
                            go_ret
                            exact ⟨by first | rfl | (simp [errW_none, errW_some] <;> rfl) | (simp [*, errW_none, errW_some] <;> rfl), by repeat (first | (with_reducible first | exact HB.out | apply below_alloc | apply pw_below_drewN | apply below_drew1) | exact HB.out)⟩
                          · rw [if_neg c20] at H
                            have c20b0 : ((Int.tmod t211 x6_1) == 0) = false := beq_eq_false_iff_ne.mpr c20
                            have c20b1 : ((Int.tmod t211 x6_1) != 0) = true := bne_iff_ne.mpr c20
                            obtain rfl := Option.some.inj H
                            go_wp2
                            go_ret
                            exact ⟨by first | rfl | (simp [errW_none, errW_some] <;> rfl) | (simp [*, errW_none, errW_some] <;> rfl), by repeat (first | (with_reducible first | exact HB.out | apply below_alloc | apply pw_below_drewN | apply below_drew1) | exact HB.out)⟩
                      · rw [if_neg c18] at H
                        have c18b0 : (t215 == t211) = false := beq_eq_false_iff_ne.mpr c18
                        have c18b1 : (t215 != t211) = true := bne_iff_ne.mpr c18
                        by_cases c23 : (wrap64 (t215 - t211)) = x6_1
                        · rw [if_pos c23] at H
                          have c23b0 : ((wrap64 (t215 - t211)) == x6_1) = true := beq_iff_eq.mpr c23
                          have c23b1 : ((wrap64 (t215 - t211)) != x6_1) = false := bne_eq_false_iff_eq.mpr c23
                          clear c23
                          by_cases c24 : x6_1 = 0
                          · rw [if_pos c24] at H
                            exact absurd H (by simp)
                          · rw [if_neg c24] at H
                            have c24b0 : (x6_1 == 0) = false := beq_eq_false_iff_ne.mpr c24
                            have c24b1 : (x6_1 != 0) = true := bne_iff_ne.mpr c24
                            by_cases c25 : (Int.tmod t211 x6_1) = 0
                            · rw [if_pos c25] at H
                              have c25b0 : ((Int.tmod t211 x6_1) == 0) = true := beq_iff_eq.mpr c25
                              have c25b1 : ((Int.tmod t211 x6_1) != 0) = false := bne_eq_false_iff_eq.mpr c25
                              clear c25
                              replace H := Option.bind_eq_some_iff.mp H
                              obtain ⟨t219, A260, H⟩ := H
                              replace H : (some t219) = some r := H
                              have A26 := Aside0.mk A260
                              clear A260
                              obtain rfl := Option.some.inj H
                              go_wp2_with (first | (go_at_call 16; (with_reducible refine (octavolaw05_lives.calls kj8  t219 _ A26.out).mono ?_); rintro e w27 ⟨rfl, hb⟩; have n0_ := Aside0.mk (below_step (by repeat (first | (with_reducible first | exact HB.out | apply below_alloc | apply pw_below_drewN | apply below_drew1) | exact HB.out)) hb); clear HB; have HB := n0_; clear n0_; (try clear hb); (try clear hb2); (try clear hk); (try clear hi)))
                              go_ret
                              exact ⟨by first | rfl | (simp [errW_none, errW_some] <;> rfl) | (simp [*, errW_none, errW_some] <;> rfl), by repeat (first | (with_reducible first | exact HB.out | apply below_alloc | apply pw_below_drewN | apply below_drew1) | exact HB.out)⟩
                            · rw [if_neg c25] at H
                              have c25b0 : ((Int.tmod t211 x6_1) == 0) = false := beq_eq_false_iff_ne.mpr c25
                              have c25b1 : ((Int.tmod t211 x6_1) != 0) = true := bne_iff_ne.mpr c25
                              obtain rfl := Option.some.inj H
                              go_wp2
                              go_ret
                              exact ⟨by first | rfl | (simp [errW_none, errW_some] <;> rfl) | (simp [*, errW_none, errW_some] <;> rfl), by repeat (first | (with_reducible first | exact HB.out | apply below_alloc | apply pw_below_drewN | apply below_drew1) | exact HB.out)⟩
                        · rw [if_neg c23] at H
                          have c23b0 : ((wrap64 (t215 - t211)) == x6_1) = false := beq_eq_false_iff_ne.mpr c23
                          have c23b1 : ((wrap64 (t215 - t211)) != x6_1) = true := bne_iff_ne.mpr c23
                          obtain rfl := Option.some.inj H
                          go_wp2
                          go_ret
                          exact ⟨by first | rfl | (simp [errW_none, errW_some] <;> rfl) | (simp [*, errW_none, errW_some] <;> rfl), by repeat (first | (with_reducible first | exact HB.out | apply below_alloc | apply pw_below_drewN | apply below_drew1) | exact HB.out)⟩
                    · rw [if_neg c17] at H
                      have c17b0 : (t213 == t211) = false := beq_eq_false_iff_ne.mpr c17
                      have c17b1 : (t213 != t211) = true := bne_iff_ne.mpr c17
                      by_cases c28 : t213 = t215
                      · rw [if_pos c28] at H
                        have c28b0 : (t213 == t215) = true := beq_iff_eq.mpr c28
                        have c28b1 : (t213 != t215) = false := bne_eq_false_iff_eq.mpr c28
                        clear c28
                        by_cases c29 : t215 = t211
                        · rw [if_pos c29] at H
                          have c29b0 : (t215 == t211) = true := beq_iff_eq.mpr c29
                          have c29b1 : (t215 != t211) = false := bne_eq_false_iff_eq.mpr c29
                          clear c29
                          by_cases c30 : x6_1 = 0
                          · rw [if_pos c30] at H
                            exact absurd H (by simp)
                          · rw [if_neg c30] at H
                            have c30b0 : (x6_1 == 0) = false := beq_eq_false_iff_ne.mpr c30
                            have c30b1 : (x6_1 != 0) = true := bne_iff_ne.mpr c30
                            by_cases c31 : (Int.tmod t211 x6_1) = 0
                            · rw [if_pos c31] at H
                              have c31b0 : ((Int.tmod t211 x6_1) == 0) = true := beq_iff_eq.mpr c31
                              have c31b1 : ((Int.tmod t211 x6_1) != 0) = false := bne_eq_false_iff_eq.mpr c31
                              clear c31
                              replace H := Option.bind_eq_some_iff.mp H
                              obtain ⟨t220, A320, H⟩ := H
                              replace H : (some t220) = some r := H
                              have A32 := Aside0.mk A320
                              clear A320
                              obtain rfl := Option.some.inj H
                              go_wp2_with (first | (go_at_call 16; (with_reducible refine (octavolaw05_lives.calls kj8  t220 _ A32.out).mono ?_); rintro e w33 ⟨rfl, hb⟩; have n0_ := Aside0.mk (below_step (by repeat (first | (with_reducible first | exact HB.out | apply below_alloc | apply pw_below_drewN | apply below_drew1) | exact HB.out)) hb); clear HB; have HB := n0_; clear n0_; (try clear hb); (try clear hb2); (try clear hk); (try clear hi)))
                              go_ret
                              exact ⟨by first | rfl | (simp [errW_none, errW_some] <;> rfl) | (simp [*, errW_none, errW_some] <;> rfl), by repeat (first | (with_reducible first | exact HB.out | apply below_alloc | apply pw_below_drewN | apply below_drew1) | exact HB.out)⟩
                            · rw [if_neg c31] at H
                              have c31b0 : ((Int.tmod t211 x6_1) == 0) = false := beq_eq_false_iff_ne.mpr c31
                              have c31b1 : ((Int.tmod t211 x6_1) != 0) = true := bne_iff_ne.mpr c31
                              obtain rfl := Option.some.inj H
                              go_wp2
                              go_ret
                              exact ⟨by first | rfl | (simp [errW_none, errW_some] <;> rfl) | (simp [*, errW_none, errW_some] <;> rfl), by repeat (first | (with_reducible first | exact HB.out | apply below_alloc | apply pw_below_drewN | apply below_drew1) | exact HB.out)⟩
                        · rw [if_neg c29] at H
                          have c29b0 : (t215 == t211) = false := beq_eq_false_iff_ne.mpr c29
                          have c29b1 : (t215 != t211) = true := bne_iff_ne.mpr c29
                          by_cases c34 : (wrap64 (t215 - t211)) = x6_1
                          · rw [if_pos c34] at H
                            have c34b0 : ((wrap64 (t215 - t211)) == x6_1) = true := beq_iff_eq.mpr c34
                            have c34b1 : ((wrap64 (t215 - t211)) != x6_1) = false := bne_eq_false_iff_eq.mpr c34
                            clear c34
                            by_cases c35 : x6_1 = 0
                            · rw [if_pos c35] at H
                              exact absurd H (by simp)
                            · rw [if_neg c35] at H
                              have c35b0 : (x6_1 == 0) = false := beq_eq_false_iff_ne.mpr c35
                              have c35b1 : (x6_1 != 0) = true := bne_iff_ne.mpr c35
                              by_cases c36 : (Int.tmod t211 x6_1) = 0
                              · rw [if_pos c36] at H
                                have c36b0 : ((Int.tmod t211 x6_1) == 0) = true := beq_iff_eq.mpr c36
                                have c36b1 : ((Int.tmod t211 x6_1) != 0) = false := bne_eq_false_iff_eq.mpr c36
                                clear c36
                                replace H := Option.bind_eq_some_iff.mp H
                                obtain ⟨t221, A370, H⟩ := H
                                replace H : (some t221) = some r := H
                                have A37 := Aside0.mk A370
                                clear A370
                                obtain rfl := Option.some.inj H
                                go_wp2_with (first | (go_at_call 16; (with_reducible refine (octavolaw05_lives.calls kj8  t221 _ A37.out).mono ?_); rintro e w38 ⟨rfl, hb⟩; have n0_ := Aside0.mk (below_step (by repeat (first | (with_reducible first | exact HB.out | apply below_alloc | apply pw_below_drewN | apply below_drew1) | exact HB.out)) hb); clear HB; have HB := n0_; clear n0_; (try clear hb); (try clear hb2); (try clear hk); (try clear hi)))
                                go_ret
                                exact ⟨by first | rfl | (simp [errW_none, errW_some] <;> rfl) | (simp [*, errW_none, errW_some] <;> rfl), by repeat (first | (with_reducible first | exact HB.out | apply below_alloc | apply pw_below_drewN | apply below_drew1) | exact HB.out)⟩
                              · rw [if_neg c36] at H
                                have c36b0 : ((Int.tmod t211 x6_1) == 0) = false := beq_eq_false_iff_ne.mpr c36
                                have c36b1 : ((Int.tmod t211 x6_1) != 0) = true := bne_iff_ne.mpr c36
                                obtain rfl := Option.some.inj H
                                go_wp2
                                go_ret
                                exact ⟨by first | rfl | (simp [errW_none, errW_some] <;> rfl) | (simp [*, errW_none, errW_some] <;> rfl), by repeat (first | (with_reducible first | exact HB.out | apply below_alloc | apply pw_below_drewN | apply below_drew1) | exact HB.out)⟩
                          · rw [if_neg c34] at H
                            have c34b0 : ((wrap64 (t215 - t211)) == x6_1) = false := beq_eq_false_iff_ne.mpr c34
                            have c34b1 : ((wrap64 (t215 - t211)) != x6_1) = true := bne_iff_ne.mpr c34
                            obtain rfl := Option.some.inj H
                            go_wp2
                            go_ret
                            exact ⟨by first | rfl | (simp [errW_none, errW_some] <;> rfl) | (simp [*, errW_none, errW_some] <;> rfl), by repeat (first | (with_reducible first | exact HB.out | apply below_alloc | apply pw_below_drewN | apply below_drew1) | exact HB.out)⟩
                      · rw [if_neg c28] at H
                        have c28b0 : (t213 == t215) = false := beq_eq_false_iff_ne.mpr c28
                        have c28b1 : (t213 != t215) = true := bne_iff_ne.mpr c28
                        obtain rfl := Option.some.inj H
                        go_wp2
                        go_ret
                        exact ⟨by first | rfl | (simp [errW_none, errW_some] <;> rfl) | (simp [*, errW_none, errW_some] <;> rfl), by repeat (first | (with_reducible first | exact HB.out | apply below_alloc | apply pw_below_drewN | apply below_drew1) | exact HB.out)⟩
                  · rw [if_neg c16] at H
                    have c16b0 : decide (a0 ≤ t215) = false := decide_eq_false c16
                    clear c16
                    obtain rfl := Option.some.inj H
                    go_wp2
                    go_ret
                    exact ⟨by first | rfl | (simp [errW_none, errW_some] <;> rfl) | (simp [*, errW_none, errW_some] <;> rfl), by repeat (first | (with_reducible first | exact HB.out | apply below_alloc | apply pw_below_drewN | apply below_drew1) | exact HB.out)⟩
                · rw [if_neg c15] at H
                  have c15b0 : decide (t211 ≤ a0) = false := decide_eq_false c15
                  clear c15
                  obtain rfl := Option.some.inj H
                  go_wp2
                  go_ret
                  exact ⟨by first | rfl | (simp [errW_none, errW_some] <;> rfl) | (simp [*, errW_none, errW_some] <;> rfl), by repeat (first | (with_reducible first | exact HB.out | apply below_alloc | apply pw_below_drewN | apply below_drew1) | exact HB.out)⟩
  · replace c4 := Bool.eq_false_iff.mpr c4
    subst c4
    have H1 : ((octavolaw05_lives.f k).bind fun t210 => (some t210)) = some r := by rw [if_neg (show ¬ (false = true) by decide)] at H; exact H
    clear H
    have H := H1
    clear H1
    replace H := Option.bind_eq_some_iff.mp H
    obtain ⟨t210, A390, H⟩ := H
    replace H : (some t210) = some r := H
    have A39 := Aside0.mk A390
    clear A390
    obtain rfl := Option.some.inj H
    go_enter Tryd.func5, Tryd.ntmps5
    go_wp2_with (first | ((with_reducible refine gate_callee (f := 14) rfl ?_); refine goesL_ (some 19) rfl rfl Tryd.func14 (by kernel_rfl) rfl #[.int .i64 a0] rfl (by (try simp only [List.map_toArray, List.map_cons, List.map_nil]); first | done | rfl | (simp only [List.length_drop, List.length_take]; rfl)) ?_; (with_reducible refine (num_Good.calls a0 false _ A3.out).mono ?_); rintro e w' ⟨rfl, ⟨nd, rfl⟩⟩; refine ⟨_, rfl, ?_⟩) | ((with_reducible refine gate_callee (f := 16) rfl ?_); refine goesL_ (some 21) rfl rfl Tryd.func16 (by kernel_rfl) rfl #[] rfl (by (try simp only [List.map_toArray, List.map_cons, List.map_nil]); first | done | rfl | (simp only [List.length_drop, List.length_take]; rfl)) ?_; (with_reducible refine (octavolaw05_lives.calls k  t210 _ A39.out).mono ?_); rintro e w40 ⟨rfl, hb⟩; refine ⟨_, rfl, ?_⟩; have n0_ := Aside0.mk (below_step (by repeat (first | (with_reducible first | exact HB.out | apply below_alloc | apply pw_below_drewN | apply below_drew1) | exact HB.out)) hb); clear HB; have HB := n0_; clear n0_; (try clear hb); (try clear hb2); (try clear hk); (try clear hi)))
    go_ret
    exact ⟨by first | rfl | (simp [errW_none, errW_some] <;> rfl) | (simp [*, errW_none, errW_some] <;> rfl), by repeat (first | (with_reducible first | exact HB.out | apply below_alloc | apply pw_below_drewN | apply below_drew1) | exact HB.out)⟩

/-- THE ONE PURE STATEMENT of octavolaw05_NumRounded: yours. -/
def octavolaw05_NumRounded.Pure : Prop := ∀ (a0 : Int) (a1 : Int), (Lit.int .i64 a0).wf = true → (Lit.int .u64 a1).wf = true → ∃ k, octavolaw05_NumRounded.f k a0 a1 = some true
theorem octavolaw05_NumRounded.walk (P : octavolaw05_NumRounded.Pure) (a0 : Int) (a1 : Int) (w : World) (w0 : (Lit.int .i64 a0).wf = true) (w1 : (Lit.int .u64 a1).wf = true) :
    Calls Tryd.prog 5 #[.int .i64 a0, .int .u64 a1] w fun e w' => e = .returned (.bool true) ∧ Below w.heap.size w w' := by
  obtain ⟨k, h⟩ := P a0 a1 w0 w1
  refine (octavolaw05_NumRounded.calls k a0 a1 true w h).mono ?_
  rintro e w' ⟨rfl, hd⟩
  exact ⟨rfl, hd⟩

/-! ### num_Whole: function 26 -/
def num_Whole.f (a0 : Int) : Option (Int × Bool) := (num_Good.f a0).bind fun t222 => (if t222 = true then (if (Int.tmod a0 10000) = 0 then (some (wrap64 (Int.tdiv a0 10000), true)) else (some (0, false))) else (some (0, false)))
set_option maxHeartbeats 8000000 in
set_option maxRecDepth 100000 in
theorem num_Whole.calls (a0 : Int) (r1 : Int) (r2 : Bool) (w : World) (h : num_Whole.f a0 = some (r1, r2)) :
    Calls Tryd.prog 26 #[.int .i64 a0] w fun e w' => e = .returned (.tuple #[.int .i64 r1, .bool r2]) ∧ Drawn0 w w' := by
  have H : ((num_Good.f a0).bind fun t222 => (if t222 = true then (if (Int.tmod a0 10000) = 0 then (some (wrap64 (Int.tdiv a0 10000), true)) else (some (0, false))) else (some (0, false)))) = some (r1, r2) := h
  clear h
  replace H := Option.bind_eq_some_iff.mp H
  obtain ⟨t222, A20, H⟩ := H
  replace H : (if t222 = true then (if (Int.tmod a0 10000) = 0 then (some (wrap64 (Int.tdiv a0 10000), true)) else (some (0, false))) else (some (0, false))) = some (r1, r2) := H
  have A2 := Aside0.mk A20
  clear A20
  by_cases c3 : t222 = true
  · subst c3
    have H1 : (if (Int.tmod a0 10000) = 0 then (some (wrap64 (Int.tdiv a0 10000), true)) else (some (0, false))) = some (r1, r2) := by rw [if_pos rfl] at H; exact H
    clear H
    have H := H1
    clear H1
    by_cases c4 : (Int.tmod a0 10000) = 0
    · rw [if_pos c4] at H
      have c4b0 : ((Int.tmod a0 10000) == 0) = true := beq_iff_eq.mpr c4
      have c4b1 : ((Int.tmod a0 10000) != 0) = false := bne_eq_false_iff_eq.mpr c4
      clear c4
      simp only [Option.some.injEq, Prod.mk.injEq] at H
      obtain ⟨rfl, rfl⟩ := H
      go_enter Tryd.func26, Tryd.ntmps26
      go_wp2_with (first | ((with_reducible refine gate_callee (f := 14) rfl ?_); refine goesL_ (some 5) rfl rfl Tryd.func14 (by kernel_rfl) rfl #[.int .i64 a0] rfl (by (try simp only [List.map_toArray, List.map_cons, List.map_nil]); first | done | rfl | (simp only [List.length_drop, List.length_take]; rfl)) ?_; (with_reducible refine (num_Good.calls a0 true _ A2.out).mono ?_); rintro e w' ⟨rfl, ⟨nd, rfl⟩⟩; refine ⟨_, rfl, ?_⟩))
      go_ret2
      exact ⟨by first | rfl | (simp; done) | (simp [*]; done), by repeat (first | exact Drawn0.refl _ | apply Drawn0.step)⟩
    · rw [if_neg c4] at H
      have c4b0 : ((Int.tmod a0 10000) == 0) = false := beq_eq_false_iff_ne.mpr c4
      have c4b1 : ((Int.tmod a0 10000) != 0) = true := bne_iff_ne.mpr c4
      simp only [Option.some.injEq, Prod.mk.injEq] at H
      obtain ⟨rfl, rfl⟩ := H
      go_enter Tryd.func26, Tryd.ntmps26
      go_wp2_with (first | ((with_reducible refine gate_callee (f := 14) rfl ?_); refine goesL_ (some 5) rfl rfl Tryd.func14 (by kernel_rfl) rfl #[.int .i64 a0] rfl (by (try simp only [List.map_toArray, List.map_cons, List.map_nil]); first | done | rfl | (simp only [List.length_drop, List.length_take]; rfl)) ?_; (with_reducible refine (num_Good.calls a0 true _ A2.out).mono ?_); rintro e w' ⟨rfl, ⟨nd, rfl⟩⟩; refine ⟨_, rfl, ?_⟩))
      go_ret2
      exact ⟨by first | rfl | (simp; done) | (simp [*]; done), by repeat (first | exact Drawn0.refl _ | apply Drawn0.step)⟩
  · replace c3 := Bool.eq_false_iff.mpr c3
    subst c3
    have H1 : (some (0, false)) = some (r1, r2) := by rw [if_neg (show ¬ (false = true) by decide)] at H; exact H
    clear H
    have H := H1
    clear H1
    simp only [Option.some.injEq, Prod.mk.injEq] at H
    obtain ⟨rfl, rfl⟩ := H
    go_enter Tryd.func26, Tryd.ntmps26
    go_wp2_with (first | ((with_reducible refine gate_callee (f := 14) rfl ?_); refine goesL_ (some 5) rfl rfl Tryd.func14 (by kernel_rfl) rfl #[.int .i64 a0] rfl (by (try simp only [List.map_toArray, List.map_cons, List.map_nil]); first | done | rfl | (simp only [List.length_drop, List.length_take]; rfl)) ?_; (with_reducible refine (num_Good.calls a0 false _ A2.out).mono ?_); rintro e w' ⟨rfl, ⟨nd, rfl⟩⟩; refine ⟨_, rfl, ?_⟩))
    go_ret2
    exact ⟨by first | rfl | (simp; done) | (simp [*]; done), by repeat (first | exact Drawn0.refl _ | apply Drawn0.step)⟩

/-! ### num_Pow: function 21 -/
def num_Pow.pows (k : Nat) : Nat → Int → Bool → Int → Option (Int × Bool)
  | 0, p, ok, _ => some (p, ok)
  | n + 1, p, ok, a => if ok = true then ((num_Mul.f k p a).bind fun t => num_Pow.pows k n t.1 t.2 a) else num_Pow.pows k n p ok a
def num_Pow.f (k : Nat) (a0 : Int) (a1 : Int) : Option (Int × Bool) := (num_Whole.f a1).bind fun t => ((num_Good.f a0).bind fun g =>
  (if t.2 = true ∧ g = true ∧ -64 ≤ t.1 ∧ t.1 ≤ 64 ∧ ¬ (a0 = 0 ∧ t.1 = 0) then ((num_Pow.pows k (max t.1 (-t.1)).toNat 10000 true a0).bind fun q =>
    (if q.2 = true then (if t.1 < 0 then (num_Div.f k 10000 q.1) else some (q.1, true)) else some (0, false))) else some (0, false)))
theorem num_Pow.mono_p : ∀ n p ok a k, LeO (num_Pow.pows k n p ok a) (num_Pow.pows (k + 1) n p ok a) := by
  intro n
  induction n with
  | zero => intro p ok a k; exact LeO.refl _
  | succ n ih =>
    intro p ok a k
    simp only [num_Pow.pows]
    exact LeO.ite (LeO.bind (num_Mul.mono _ _ _) (fun _ => ih _ _ _ _)) (ih _ _ _ _)
theorem num_Pow.mono : ∀ a0 a1 k, LeO (num_Pow.f k a0 a1) (num_Pow.f (k + 1) a0 a1) := by
  intro a0 a1 k
  unfold num_Pow.f
  exact LeO.bind (LeO.refl _) (fun _ => LeO.bind (LeO.refl _) (fun _ => LeO.ite (LeO.bind (num_Pow.mono_p _ _ _ _ _) (fun _ => LeO.ite (LeO.ite (num_Div.mono _ _ _) (LeO.refl _)) (LeO.refl _))) (LeO.refl _)))
def num_Pow.In (w w' : World) (B bo bp ba : Nat) (ok : Bool) (p a : Int) : Prop := X.Blk w' bo 4 #[.bool ok] ∧ X.Blk w' bp 3 #[.int .i64 p] ∧ X.Blk w' ba 3 #[.int .i64 a] ∧ Below B w w'
set_option maxHeartbeats 8000000 in
set_option maxRecDepth 100000 in
theorem num_Pow.times (k : Nat) (n : Nat) (m : Int) (hm : m = (n : Int)) (ok : Bool) (p a : Int) (r : Int × Bool) (w0 w : World) (B bo bp ba : Nat) (h : num_Pow.pows k n p ok a = some r) (hn : (n : Int) ≤ 64)
    (hb : B ≤ bo) (hb2 : B ≤ bp) (hd1 : bo ≠ bp) (hd2 : bo ≠ ba) (hd3 : bp ≠ ba) (hw : num_Pow.In w0 w B bo bp ba ok p a) :
    Calls Tryd.prog 58 #[.int .i64 m, .pointer (some ⟨bo, 0, none⟩), .pointer (some ⟨bp, 0, none⟩), .pointer (some ⟨ba, 0, none⟩)] w fun e w' => e = .returned (.tuple #[]) ∧ num_Pow.In w0 w' B bo bp ba r.2 r.1 a := by
  subst hm
  have H' := Aside0.mk h
  have HW := Aside0.mk hw
  have HD := Aside0.mk (And.intro hd1 (And.intro hd2 hd3))
  have HBB := Aside0.mk (And.intro hb hb2)
  clear h hw hd1 hd2 hd3 hb hb2
  go_enter Tryd.func58, Tryd.ntmps58
  go_wp2
  go_loopg [6] n (fun g v6 w' => ∃ (i : Int) (ok' : Bool) (p' : Int), v6 = .int .i64 i ∧ Aside0 ((g : Int) + i = n ∧ 0 ≤ i) ∧ Aside0 (num_Pow.pows k g p' ok' a = some r) ∧ Aside0 (num_Pow.In w0 w' B bo bp ba ok' p' a))
  case atStart => exact ⟨0, ok, p, rfl, ⟨by omega⟩, H', HW⟩
  case round =>
    clear H' HW
    obtain ⟨i, ok', p', rfl, HI, HA, HW⟩ := hrel
    have hi := HI.out
    obtain ⟨b1, b2, b3, b4⟩ := HW.out
    have c1 := b1.cell 0
    have c2 := b2.cell 0
    have c3 := b3.cell 0
    have f1 := b1.frozen 0
    have f2 := b2.frozen 0
    simp only [List.getElem?_toArray, List.getElem?_cons_zero] at c1 c2 c3
    cases gk with
    | zero =>
      have c : decide (i < (n : Int)) = false := decide_eq_false (by omega)
      have hr := Option.some.inj HA.out
      subst hr
      clear hi b1 b2 b3 b4
      go_wp2
      go_end0
      exact ⟨rfl, HW.out⟩
    | succ g =>
      have c : decide (i < (n : Int)) = true := decide_eq_true (by omega)
      have H := HA.out
      simp only [num_Pow.pows] at H
      cases ok' with
      | false =>
        have H1 := Aside0.mk (show num_Pow.pows k g p' false a = some r from by simpa using H)
        clear H
        have i1 : i + 1 ≤ 64 := by omega
        have i0 : 0 ≤ i := by omega
        clear hi b1 b2 b3 b4
        go_wp2
        go_roundg g
        case measure => omega
        case rel => exact ⟨_, _, _, rfl, ⟨by have := HI.out; omega⟩, H1, HW⟩
      | true =>
        rw [if_pos rfl] at H
        obtain ⟨⟨t1, t2⟩, A10, H⟩ := Option.bind_eq_some_iff.mp H
        have A1 := Aside0.mk A10
        have H1 := Aside0.mk H
        clear H A10
        have i1 : i + 1 ≤ 64 := by omega
        have i0 : 0 ≤ i := by omega
        clear hi b1 b2 b3 b4
        go_wp2_with (first | (go_at_call 17; refine (num_Mul.calls k p' a t1 t2 _ A1.out).mono ?_; rintro e w1 ⟨rfl, hb⟩; have Hb := Aside0.mk hb; have B1' := Aside0.mk ((HW.out.1).below hb (HW.out.1).lt); have B2' := Aside0.mk ((HW.out.2.1).below hb (HW.out.2.1).lt); have B3' := Aside0.mk ((HW.out.2.2.1).below hb (HW.out.2.2.1).lt); have d1 : ∀ v, (w1.setCell ⟨bp, 0, none⟩ v).cell? ⟨bo, 0, none⟩ = some (.bool true) := (fun v => ((B1'.out).far (p := ⟨bp, 0, none⟩) HD.out.1 v).cell 0); have d2 : w1.cell? ⟨bp, 0, none⟩ = some (.int .i64 p') := (B2'.out).cell 0; have g1 : ∀ v, (w1.setCell ⟨bp, 0, none⟩ v).frozen? ⟨bo, 0, none⟩ = false := (fun v => ((B1'.out).far (p := ⟨bp, 0, none⟩) HD.out.1 v).frozen 0); have g2 := (B2'.out).frozen 0; clear hb))
        go_roundg g
        case measure => omega
        case rel =>
          refine ⟨_, _, _, rfl, ⟨by have := HI.out; omega⟩, H1, ⟨?_⟩⟩
          have hh := HD.out
          refine ⟨(((B1'.out).far (p := ⟨bp, 0, none⟩) hh.1 _).set_ 0 _), (((B2'.out).set_ 0 _).far (p := ⟨bo, 0, none⟩) (Ne.symm hh.1) _), (((B3'.out).far (p := ⟨bp, 0, none⟩) (Ne.symm hh.2.2) _).far (p := ⟨bo, 0, none⟩) (Ne.symm hh.2.1) _), ?_⟩
          exact ((HW.out.2.2.2.trans (Hb.out.mono (Nat.le_of_lt (Nat.lt_of_le_of_lt HBB.out.1 (HW.out.1).lt)))).setCell HBB.out.2 _).setCell HBB.out.1 _
theorem num_Pow.start (w : World) (nd nd2 : Nat) (a0 : Int) : num_Pow.In w (((((w.alloc (Obj.cells #[Value.int IntKind.i64 a0] 3)).drewN nd).alloc (Obj.cells #[Value.bool true] 4)).drewN nd2).alloc (Obj.cells #[Value.int IntKind.i64 10000] 3)) w.heap.size (w.heap.size + 1) (w.heap.size + 1 + 1) w.heap.size true 10000 a0 := by
  have h1 := (((X.Blk.new ((w.alloc (Obj.cells #[Value.int IntKind.i64 a0] 3)).drewN nd) 4 #[Value.bool true]).drewN nd2).alloc (Obj.cells #[Value.int IntKind.i64 10000] 3))
  have h2 := X.Blk.new ((((w.alloc (Obj.cells #[Value.int IntKind.i64 a0] 3)).drewN nd).alloc (Obj.cells #[Value.bool true] 4)).drewN nd2) 3 #[Value.int IntKind.i64 10000]
  have h3 := ((((X.Blk.new w 3 #[Value.int IntKind.i64 a0]).drewN nd).alloc (Obj.cells #[Value.bool true] 4)).drewN nd2).alloc (Obj.cells #[Value.int IntKind.i64 10000] 3)
  refine ⟨by simpa using h1, by simpa using h2, h3, ?_⟩
  repeat (first | exact Below.refl _ _ | apply below_alloc | apply pw_below_drewN)
set_option maxHeartbeats 8000000 in
set_option maxRecDepth 100000 in
theorem num_Pow.calls (k : Nat) (a0 : Int) (a1 : Int) (r1 : Int) (r2 : Bool) (w : World) (h : num_Pow.f k a0 a1 = some (r1, r2)) :
    Calls Tryd.prog 21 #[.int .i64 a0, .int .i64 a1] w fun e w' => e = .returned (.tuple #[.int .i64 r1, .bool r2]) ∧ Below w.heap.size w w' := by
  unfold num_Pow.f at h
  obtain ⟨⟨t1, t2⟩, A10, h⟩ := Option.bind_eq_some_iff.mp h
  obtain ⟨g, A20, h⟩ := Option.bind_eq_some_iff.mp h
  have A1 := Aside0.mk A10
  have A2 := Aside0.mk A20
  clear A10 A20
  simp only at h
  have hmf : ∀ (fn : Fn) (first cap : Array Value) (w : World), (Instr.makeFunc fn first cap).run Tryd.prog w = .ok (.func fn first cap) w := fun _ _ _ _ => rfl
  cases t2 with
  | false =>
    rw [if_neg (by simp)] at h
    simp only [Option.some.injEq, Prod.mk.injEq] at h
    obtain ⟨rfl, rfl⟩ := h
    go_enter Tryd.func21, Tryd.ntmps21
    go_wp2_with (first | (go_at_call 26; refine (num_Whole.calls a1 t1 false _ A1.out).mono ?_; rintro e w1 ⟨rfl, nd, rfl⟩))
    go_ret2
    exact ⟨rfl, by repeat (first | exact Below.refl _ _ | apply below_alloc | apply pw_below_drewN | apply below_drew1 | refine Below.setCell ?_ (by simp) _)⟩
  | true =>
    cases g with
    | false =>
      rw [if_neg (by simp)] at h
      simp only [Option.some.injEq, Prod.mk.injEq] at h
      obtain ⟨rfl, rfl⟩ := h
      go_enter Tryd.func21, Tryd.ntmps21
      go_wp2_with (first | (go_at_call 26; refine (num_Whole.calls a1 t1 true _ A1.out).mono ?_; rintro e w1 ⟨rfl, nd, rfl⟩) | (go_at_call 14; refine (num_Good.calls a0 false _ A2.out).mono ?_; rintro e w1 ⟨rfl, nd2, rfl⟩))
      go_ret2
      exact ⟨rfl, by repeat (first | exact Below.refl _ _ | apply below_alloc | apply pw_below_drewN | apply below_drew1 | refine Below.setCell ?_ (by simp) _)⟩
    | true =>
      by_cases c1 : t1 < -64
      · rw [if_neg (by omega)] at h
        have c1b : decide (t1 < -64) = true := decide_eq_true c1
        clear c1
        simp only [Option.some.injEq, Prod.mk.injEq] at h
        obtain ⟨rfl, rfl⟩ := h
        go_enter Tryd.func21, Tryd.ntmps21
        go_wp2_with (first | (go_at_call 26; refine (num_Whole.calls a1 t1 true _ A1.out).mono ?_; rintro e w1 ⟨rfl, nd, rfl⟩) | (go_at_call 14; refine (num_Good.calls a0 true _ A2.out).mono ?_; rintro e w1 ⟨rfl, nd2, rfl⟩))
        go_ret2
        exact ⟨rfl, by repeat (first | exact Below.refl _ _ | apply below_alloc | apply pw_below_drewN | apply below_drew1 | refine Below.setCell ?_ (by simp) _)⟩
      · have c1b : decide (t1 < -64) = false := decide_eq_false c1
        by_cases c2 : 64 < t1
        · rw [if_neg (by omega)] at h
          have c2b : decide (64 < t1) = true := decide_eq_true c2
          clear c1 c2
          simp only [Option.some.injEq, Prod.mk.injEq] at h
          obtain ⟨rfl, rfl⟩ := h
          go_enter Tryd.func21, Tryd.ntmps21
          go_wp2_with (first | (go_at_call 26; refine (num_Whole.calls a1 t1 true _ A1.out).mono ?_; rintro e w1 ⟨rfl, nd, rfl⟩) | (go_at_call 14; refine (num_Good.calls a0 true _ A2.out).mono ?_; rintro e w1 ⟨rfl, nd2, rfl⟩))
          go_ret2
          exact ⟨rfl, by repeat (first | exact Below.refl _ _ | apply below_alloc | apply pw_below_drewN | apply below_drew1 | refine Below.setCell ?_ (by simp) _)⟩
        · have c2b : decide (64 < t1) = false := decide_eq_false c2
          by_cases c3 : a0 = 0 ∧ t1 = 0
          · rw [if_neg (by omega)] at h
            obtain ⟨rfl, rfl⟩ := c3
            clear c1 c2
            simp only [Option.some.injEq, Prod.mk.injEq] at h
            obtain ⟨rfl, rfl⟩ := h
            go_enter Tryd.func21, Tryd.ntmps21
            go_wp2_with (first | (go_at_call 26; refine (num_Whole.calls a1 0 true _ A1.out).mono ?_; rintro e w1 ⟨rfl, nd, rfl⟩) | (go_at_call 14; refine (num_Good.calls 0 true _ A2.out).mono ?_; rintro e w1 ⟨rfl, nd2, rfl⟩))
            go_ret2
            exact ⟨rfl, by repeat (first | exact Below.refl _ _ | apply below_alloc | apply pw_below_drewN | apply below_drew1 | refine Below.setCell ?_ (by simp) _)⟩
          · rw [if_pos ⟨rfl, rfl, by omega, by omega, c3⟩] at h
            obtain ⟨⟨q1, q2⟩, A30, h⟩ := Option.bind_eq_some_iff.mp h
            have A3 := Aside0.mk A30
            have HH := Aside0.mk h
            clear A30 h
            have m1 : -64 ≤ t1 := by omega
            have m2 : t1 ≤ 64 := by omega
            have hz : a0 = 0 ∨ (a0 ≠ 0) := by omega
            rcases hz with c4 | c4
            · have c4b : (a0 == 0) = true := beq_iff_eq.mpr c4
              have c5b : (t1 == 0) = false := beq_eq_false_iff_ne.mpr (fun e => c3 ⟨c4, e⟩)
              clear c3 c4 c1 c2
              by_cases c6 : t1 < 0
              · have c6b : decide (t1 < 0) = true := decide_eq_true c6
                have c7b : decide (t1 < -t1) = true := decide_eq_true (by omega)
                have c8b : (t1 < -t1) = True := eq_true (by omega)
                have c9b : (-t1 ≤ t1) = False := eq_false (by omega)
                have e3 : (max t1 (-t1)).toNat = (-t1).toNat := by omega
                rw [e3] at A3
                obtain ⟨n, hn⟩ : ∃ n : Nat, n = (-t1).toNat := ⟨_, rfl⟩
                rw [← hn] at A3
                have Hn := Aside0.mk hn
                have n64 : n ≤ 64 := by omega
                have nn : (n : Int) = -t1 := by omega
                have Nn := Aside0.mk nn
                clear hn e3 nn
                cases q2 with
                | false =>
                  have h := HH.out
                  rw [if_neg (by simp)] at h
                  simp only [Option.some.injEq, Prod.mk.injEq] at h
                  obtain ⟨rfl, rfl⟩ := h
                  clear c6
                  go_enter Tryd.func21, Tryd.ntmps21
                  go_wp2_with (first | (go_at_call 26; refine (num_Whole.calls a1 t1 true _ A1.out).mono ?_; rintro e w1 ⟨rfl, nd, rfl⟩) | (go_at_call 14; refine (num_Good.calls a0 true _ A2.out).mono ?_; rintro e w1 ⟨rfl, nd2, rfl⟩) | (go_at_call 58; refine (num_Pow.times k n (-t1) (by have := Nn.out; omega) true 10000 a0 (q1, false) w _ w.heap.size (w.heap.size + 1) (w.heap.size + 1 + 1) w.heap.size A3.out (by omega) (by omega) (by omega) (by omega) (by omega) (by omega) (num_Pow.start w nd nd2 a0)).mono ?_; rintro e w3 ⟨rfl, hin⟩; have HIN := Aside0.mk hin; have e1 : w3.cell? ⟨w.heap.size + 1, 0, none⟩ = some (.bool false) := (HIN.out.1).cell 0; have e2 : w3.cell? ⟨w.heap.size + 1 + 1, 0, none⟩ = some (.int .i64 q1) := (HIN.out.2.1).cell 0; clear hin))
                  go_ret2
                  exact ⟨rfl, HIN.out.2.2.2⟩
                | true =>
                  have h := HH.out
                  rw [if_pos rfl, if_pos c6] at h
                  have A4 := Aside0.mk h
                  clear h c6
                  go_enter Tryd.func21, Tryd.ntmps21
                  go_wp2_with (first | (go_at_call 26; refine (num_Whole.calls a1 t1 true _ A1.out).mono ?_; rintro e w1 ⟨rfl, nd, rfl⟩) | (go_at_call 14; refine (num_Good.calls a0 true _ A2.out).mono ?_; rintro e w1 ⟨rfl, nd2, rfl⟩) | (go_at_call 58; refine (num_Pow.times k n (-t1) (by have := Nn.out; omega) true 10000 a0 (q1, true) w _ w.heap.size (w.heap.size + 1) (w.heap.size + 1 + 1) w.heap.size A3.out (by omega) (by omega) (by omega) (by omega) (by omega) (by omega) (num_Pow.start w nd nd2 a0)).mono ?_; rintro e w3 ⟨rfl, hin⟩; have HIN := Aside0.mk hin; have e1 : w3.cell? ⟨w.heap.size + 1, 0, none⟩ = some (.bool true) := (HIN.out.1).cell 0; have e2 : w3.cell? ⟨w.heap.size + 1 + 1, 0, none⟩ = some (.int .i64 q1) := (HIN.out.2.1).cell 0; clear hin) | (go_at_call 18; refine (num_Div.calls k 10000 q1 r1 r2 _ A4.out).mono ?_; rintro e w4 ⟨rfl, hb4⟩))
                  go_ret2
                  exact ⟨rfl, HIN.out.2.2.2.trans (hb4.mono (Nat.le_of_lt (HIN.out.2.2.1).lt))⟩
              · have c6b : decide (t1 < 0) = false := decide_eq_false c6
                have c7b : decide (t1 < -t1) = false := decide_eq_false (by omega)
                have c8b : (t1 < -t1) = False := eq_false (by omega)
                have c9b : (-t1 ≤ t1) = True := eq_true (by omega)
                have e3 : (max t1 (-t1)).toNat = (t1).toNat := by omega
                rw [e3] at A3
                obtain ⟨n, hn⟩ : ∃ n : Nat, n = (t1).toNat := ⟨_, rfl⟩
                rw [← hn] at A3
                have Hn := Aside0.mk hn
                have n64 : n ≤ 64 := by omega
                have nn : (n : Int) = t1 := by omega
                have Nn := Aside0.mk nn
                clear hn e3 nn
                cases q2 with
                | false =>
                  have h := HH.out
                  rw [if_neg (by simp)] at h
                  simp only [Option.some.injEq, Prod.mk.injEq] at h
                  obtain ⟨rfl, rfl⟩ := h
                  clear c6
                  go_enter Tryd.func21, Tryd.ntmps21
                  go_wp2_with (first | (go_at_call 26; refine (num_Whole.calls a1 t1 true _ A1.out).mono ?_; rintro e w1 ⟨rfl, nd, rfl⟩) | (go_at_call 14; refine (num_Good.calls a0 true _ A2.out).mono ?_; rintro e w1 ⟨rfl, nd2, rfl⟩) | (go_at_call 58; refine (num_Pow.times k n t1 (by have := Nn.out; omega) true 10000 a0 (q1, false) w _ w.heap.size (w.heap.size + 1) (w.heap.size + 1 + 1) w.heap.size A3.out (by omega) (by omega) (by omega) (by omega) (by omega) (by omega) (num_Pow.start w nd nd2 a0)).mono ?_; rintro e w3 ⟨rfl, hin⟩; have HIN := Aside0.mk hin; have e1 : w3.cell? ⟨w.heap.size + 1, 0, none⟩ = some (.bool false) := (HIN.out.1).cell 0; have e2 : w3.cell? ⟨w.heap.size + 1 + 1, 0, none⟩ = some (.int .i64 q1) := (HIN.out.2.1).cell 0; clear hin))
                  go_ret2
                  exact ⟨rfl, HIN.out.2.2.2⟩
                | true =>
                  have h := HH.out
                  rw [if_pos rfl, if_neg c6] at h
                  simp only [Option.some.injEq, Prod.mk.injEq] at h
                  obtain ⟨rfl, rfl⟩ := h
                  clear c6
                  go_enter Tryd.func21, Tryd.ntmps21
                  go_wp2_with (first | (go_at_call 26; refine (num_Whole.calls a1 t1 true _ A1.out).mono ?_; rintro e w1 ⟨rfl, nd, rfl⟩) | (go_at_call 14; refine (num_Good.calls a0 true _ A2.out).mono ?_; rintro e w1 ⟨rfl, nd2, rfl⟩) | (go_at_call 58; refine (num_Pow.times k n t1 (by have := Nn.out; omega) true 10000 a0 (q1, true) w _ w.heap.size (w.heap.size + 1) (w.heap.size + 1 + 1) w.heap.size A3.out (by omega) (by omega) (by omega) (by omega) (by omega) (by omega) (num_Pow.start w nd nd2 a0)).mono ?_; rintro e w3 ⟨rfl, hin⟩; have HIN := Aside0.mk hin; have e1 : w3.cell? ⟨w.heap.size + 1, 0, none⟩ = some (.bool true) := (HIN.out.1).cell 0; have e2 : w3.cell? ⟨w.heap.size + 1 + 1, 0, none⟩ = some (.int .i64 q1) := (HIN.out.2.1).cell 0; clear hin))
                  go_ret2
                  exact ⟨rfl, HIN.out.2.2.2⟩
            · have c4b : (a0 == 0) = false := beq_eq_false_iff_ne.mpr c4
              clear c3 c4 c1 c2
              by_cases c6 : t1 < 0
              · have c6b : decide (t1 < 0) = true := decide_eq_true c6
                have c7b : decide (t1 < -t1) = true := decide_eq_true (by omega)
                have c8b : (t1 < -t1) = True := eq_true (by omega)
                have c9b : (-t1 ≤ t1) = False := eq_false (by omega)
                have e3 : (max t1 (-t1)).toNat = (-t1).toNat := by omega
                rw [e3] at A3
                obtain ⟨n, hn⟩ : ∃ n : Nat, n = (-t1).toNat := ⟨_, rfl⟩
                rw [← hn] at A3
                have Hn := Aside0.mk hn
                have n64 : n ≤ 64 := by omega
                have nn : (n : Int) = -t1 := by omega
                have Nn := Aside0.mk nn
                clear hn e3 nn
                cases q2 with
                | false =>
                  have h := HH.out
                  rw [if_neg (by simp)] at h
                  simp only [Option.some.injEq, Prod.mk.injEq] at h
                  obtain ⟨rfl, rfl⟩ := h
                  clear c6
                  go_enter Tryd.func21, Tryd.ntmps21
                  go_wp2_with (first | (go_at_call 26; refine (num_Whole.calls a1 t1 true _ A1.out).mono ?_; rintro e w1 ⟨rfl, nd, rfl⟩) | (go_at_call 14; refine (num_Good.calls a0 true _ A2.out).mono ?_; rintro e w1 ⟨rfl, nd2, rfl⟩) | (go_at_call 58; refine (num_Pow.times k n (-t1) (by have := Nn.out; omega) true 10000 a0 (q1, false) w _ w.heap.size (w.heap.size + 1) (w.heap.size + 1 + 1) w.heap.size A3.out (by omega) (by omega) (by omega) (by omega) (by omega) (by omega) (num_Pow.start w nd nd2 a0)).mono ?_; rintro e w3 ⟨rfl, hin⟩; have HIN := Aside0.mk hin; have e1 : w3.cell? ⟨w.heap.size + 1, 0, none⟩ = some (.bool false) := (HIN.out.1).cell 0; have e2 : w3.cell? ⟨w.heap.size + 1 + 1, 0, none⟩ = some (.int .i64 q1) := (HIN.out.2.1).cell 0; clear hin))
                  go_ret2
                  exact ⟨rfl, HIN.out.2.2.2⟩
                | true =>
                  have h := HH.out
                  rw [if_pos rfl, if_pos c6] at h
                  have A4 := Aside0.mk h
                  clear h c6
                  go_enter Tryd.func21, Tryd.ntmps21
                  go_wp2_with (first | (go_at_call 26; refine (num_Whole.calls a1 t1 true _ A1.out).mono ?_; rintro e w1 ⟨rfl, nd, rfl⟩) | (go_at_call 14; refine (num_Good.calls a0 true _ A2.out).mono ?_; rintro e w1 ⟨rfl, nd2, rfl⟩) | (go_at_call 58; refine (num_Pow.times k n (-t1) (by have := Nn.out; omega) true 10000 a0 (q1, true) w _ w.heap.size (w.heap.size + 1) (w.heap.size + 1 + 1) w.heap.size A3.out (by omega) (by omega) (by omega) (by omega) (by omega) (by omega) (num_Pow.start w nd nd2 a0)).mono ?_; rintro e w3 ⟨rfl, hin⟩; have HIN := Aside0.mk hin; have e1 : w3.cell? ⟨w.heap.size + 1, 0, none⟩ = some (.bool true) := (HIN.out.1).cell 0; have e2 : w3.cell? ⟨w.heap.size + 1 + 1, 0, none⟩ = some (.int .i64 q1) := (HIN.out.2.1).cell 0; clear hin) | (go_at_call 18; refine (num_Div.calls k 10000 q1 r1 r2 _ A4.out).mono ?_; rintro e w4 ⟨rfl, hb4⟩))
                  go_ret2
                  exact ⟨rfl, HIN.out.2.2.2.trans (hb4.mono (Nat.le_of_lt (HIN.out.2.2.1).lt))⟩
              · have c6b : decide (t1 < 0) = false := decide_eq_false c6
                have c7b : decide (t1 < -t1) = false := decide_eq_false (by omega)
                have c8b : (t1 < -t1) = False := eq_false (by omega)
                have c9b : (-t1 ≤ t1) = True := eq_true (by omega)
                have e3 : (max t1 (-t1)).toNat = (t1).toNat := by omega
                rw [e3] at A3
                obtain ⟨n, hn⟩ : ∃ n : Nat, n = (t1).toNat := ⟨_, rfl⟩
                rw [← hn] at A3
                have Hn := Aside0.mk hn
                have n64 : n ≤ 64 := by omega
                have nn : (n : Int) = t1 := by omega
                have Nn := Aside0.mk nn
                clear hn e3 nn
                cases q2 with
                | false =>
                  have h := HH.out
                  rw [if_neg (by simp)] at h
                  simp only [Option.some.injEq, Prod.mk.injEq] at h
                  obtain ⟨rfl, rfl⟩ := h
                  clear c6
                  go_enter Tryd.func21, Tryd.ntmps21
                  go_wp2_with (first | (go_at_call 26; refine (num_Whole.calls a1 t1 true _ A1.out).mono ?_; rintro e w1 ⟨rfl, nd, rfl⟩) | (go_at_call 14; refine (num_Good.calls a0 true _ A2.out).mono ?_; rintro e w1 ⟨rfl, nd2, rfl⟩) | (go_at_call 58; refine (num_Pow.times k n t1 (by have := Nn.out; omega) true 10000 a0 (q1, false) w _ w.heap.size (w.heap.size + 1) (w.heap.size + 1 + 1) w.heap.size A3.out (by omega) (by omega) (by omega) (by omega) (by omega) (by omega) (num_Pow.start w nd nd2 a0)).mono ?_; rintro e w3 ⟨rfl, hin⟩; have HIN := Aside0.mk hin; have e1 : w3.cell? ⟨w.heap.size + 1, 0, none⟩ = some (.bool false) := (HIN.out.1).cell 0; have e2 : w3.cell? ⟨w.heap.size + 1 + 1, 0, none⟩ = some (.int .i64 q1) := (HIN.out.2.1).cell 0; clear hin))
                  go_ret2
                  exact ⟨rfl, HIN.out.2.2.2⟩
                | true =>
                  have h := HH.out
                  rw [if_pos rfl, if_neg c6] at h
                  simp only [Option.some.injEq, Prod.mk.injEq] at h
                  obtain ⟨rfl, rfl⟩ := h
                  clear c6
                  go_enter Tryd.func21, Tryd.ntmps21
                  go_wp2_with (first | (go_at_call 26; refine (num_Whole.calls a1 t1 true _ A1.out).mono ?_; rintro e w1 ⟨rfl, nd, rfl⟩) | (go_at_call 14; refine (num_Good.calls a0 true _ A2.out).mono ?_; rintro e w1 ⟨rfl, nd2, rfl⟩) | (go_at_call 58; refine (num_Pow.times k n t1 (by have := Nn.out; omega) true 10000 a0 (q1, true) w _ w.heap.size (w.heap.size + 1) (w.heap.size + 1 + 1) w.heap.size A3.out (by omega) (by omega) (by omega) (by omega) (by omega) (by omega) (num_Pow.start w nd nd2 a0)).mono ?_; rintro e w3 ⟨rfl, hin⟩; have HIN := Aside0.mk hin; have e1 : w3.cell? ⟨w.heap.size + 1, 0, none⟩ = some (.bool true) := (HIN.out.1).cell 0; have e2 : w3.cell? ⟨w.heap.size + 1 + 1, 0, none⟩ = some (.int .i64 q1) := (HIN.out.2.1).cell 0; clear hin))
                  go_ret2
                  exact ⟨rfl, HIN.out.2.2.2⟩
end Go.Proofs.YtficjmgofbdohaaDoor.P
