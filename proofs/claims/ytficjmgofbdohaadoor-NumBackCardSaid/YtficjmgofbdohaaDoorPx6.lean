-- Written by a program of this session (wip/tools/xprint.py), out of the seat's translation. Not trusted: Lean checks it.
import Derived.Test.YtficjmgofbdohaaDoorPx0
import Derived.Test.YtficjmgofbdohaaDoorPx1
import Derived.Test.YtficjmgofbdohaaDoorPx2
import Derived.Test.YtficjmgofbdohaaDoorPx4
import Derived.Test.YtficjmgofbdohaaDoorPx5
namespace Go.Proofs.YtficjmgofbdohaaDoor.P
open Go.RowKit Go.Proofs.YtficjmgofbdohaaDoorW.PrintWords Go.Proofs.YtficjmgofbdohaaDoorW.PrintLast Go.Proofs.YtficjmgofbdohaaDoorW.PrintMore
attribute [local go_sem] max2_int min2_int max_two min_two max_three min_three max_four min_four   -- for this text's walks alone
set_option linter.unusedVariables false
set_option linter.unusedSimpArgs false

/-! ### octavolaw05_NumBack: function 8 -/
mutual
def octavolaw05_NumBack.j0 : Nat → Int → Int → Bool → Option (Bool)
  | 0, _, _, _ => none
  | k + 1, x0, x1, x25 => if x25 = true then ((num_Good.f x0).bind fun t179 => ((octavoref05_Good.f x0).bind fun t180 => (if (t179 == t180) = true then ((num_Good.f x1).bind fun t181 => ((octavoref05_Good.f x1).bind fun t182 => (if (t181 == t182) = true then ((octavolaw05_lives.f k).bind fun t183 => (some t183)) else (some false)))) else (some false)))) else ((num_Print.f k x0).bind fun t184 => ((num_Parse.f k t184).bind fun bt185 => (if bt185.2 = true then (octavolaw05_NumBack.j1 k x0 x1 (bt185.1 != x0)) else (octavolaw05_NumBack.j1 k x0 x1 true))))
def octavolaw05_NumBack.j1 : Nat → Int → Int → Bool → Option (Bool)
  | 0, _, _, _ => none
  | k + 1, x0, x1, x53 => if x53 = true then (some false) else ((num_Add.f k x0 x1).bind fun bt187 => (if bt187.2 = true then ((num_Sub.f k bt187.1 x1).bind fun bt189 => (if bt189.2 = true then (if bt189.1 = x0 then (octavolaw05_NumBack.j2 k x0 x1) else (some false)) else (some false))) else (octavolaw05_NumBack.j2 k x0 x1)))
def octavolaw05_NumBack.j2 : Nat → Int → Int → Option (Bool)
  | 0, _, _ => none
  | k + 1, x0, x1 => (num_Mul.f k x0 x1).bind fun bt191 => ((num_Mul.f k x1 x0).bind fun bt193 => (if bt191.1 = bt193.1 then (octavolaw05_NumBack.j3 k x0 x1 (bt191.2 != bt193.2)) else (octavolaw05_NumBack.j3 k x0 x1 true)))
def octavolaw05_NumBack.j3 : Nat → Int → Int → Bool → Option (Bool)
  | 0, _, _, _ => none
  | k + 1, x0, x1, x93 => if x93 = true then (some false) else ((num_Mod.f k x0 x1).bind fun bt195 => (if bt195.2 = true then (if x1 > 0 then (if bt195.1 < 0 then (octavolaw05_NumBack.j4 k x0 true) else (if bt195.1 ≥ x1 then (octavolaw05_NumBack.j4 k x0 true) else (if x1 < 0 then (if bt195.1 > 0 then (octavolaw05_NumBack.j4 k x0 true) else (octavolaw05_NumBack.j4 k x0 (decide (bt195.1 ≤ x1)))) else (octavolaw05_NumBack.j4 k x0 false)))) else (if x1 < 0 then (if bt195.1 > 0 then (octavolaw05_NumBack.j4 k x0 true) else (octavolaw05_NumBack.j4 k x0 (decide (bt195.1 ≤ x1)))) else (octavolaw05_NumBack.j4 k x0 false))) else (octavolaw05_NumBack.j4 k x0 false)))
def octavolaw05_NumBack.j4 : Nat → Int → Bool → Option (Bool)
  | 0, _, _ => none
  | k + 1, x0, x126 => if x126 = true then (some false) else ((num_Sqrt.f k x0).bind fun bt197 => (if (bt197.2 != (decide (x0 ≥ 0))) = true then (some false) else (if bt197.2 = true then (if (wrap64 (bt197.1 * bt197.1)) > (wrap64 (x0 * 10000)) then (some false) else (if (wrap64 ((wrap64 (bt197.1 + 1)) * (wrap64 (bt197.1 + 1)))) ≤ (wrap64 (x0 * 10000)) then (some false) else ((octavolaw05_lives.f k).bind fun t199 => (some t199)))) else ((octavolaw05_lives.f k).bind fun t200 => (some t200)))))
end
def octavolaw05_NumBack.f (k : Nat) (a0 : Int) (a1 : Int) : Option (Bool) := (num_Good.f a0).bind fun t177 => (if t177 = true then ((num_Good.f a1).bind fun t178 => (octavolaw05_NumBack.j0 k a0 a1 (!t178))) else (octavolaw05_NumBack.j0 k a0 a1 true))
theorem octavolaw05_NumBack.mono_l : ∀ k, (∀ y0 y1 y2, LeO (octavolaw05_NumBack.j0 k y0 y1 y2) (octavolaw05_NumBack.j0 (k + 1) y0 y1 y2)) ∧ (∀ y0 y1 y2, LeO (octavolaw05_NumBack.j1 k y0 y1 y2) (octavolaw05_NumBack.j1 (k + 1) y0 y1 y2)) ∧ (∀ y0 y1, LeO (octavolaw05_NumBack.j2 k y0 y1) (octavolaw05_NumBack.j2 (k + 1) y0 y1)) ∧ (∀ y0 y1 y2, LeO (octavolaw05_NumBack.j3 k y0 y1 y2) (octavolaw05_NumBack.j3 (k + 1) y0 y1 y2)) ∧ (∀ y0 y1, LeO (octavolaw05_NumBack.j4 k y0 y1) (octavolaw05_NumBack.j4 (k + 1) y0 y1))
  | 0 => ⟨fun _ _ _ r h => by simp [octavolaw05_NumBack.j0] at h, fun _ _ _ r h => by simp [octavolaw05_NumBack.j1] at h, fun _ _ r h => by simp [octavolaw05_NumBack.j2] at h, fun _ _ _ r h => by simp [octavolaw05_NumBack.j3] at h, fun _ _ r h => by simp [octavolaw05_NumBack.j4] at h⟩
  | k + 1 => by
    obtain ⟨ih0, ih1, ih2, ih3, ih4⟩ := octavolaw05_NumBack.mono_l k
    refine ⟨?_, ?_, ?_, ?_, ?_⟩
    · intro y0 y1 y2
      unfold octavolaw05_NumBack.j0
      repeat' first
      | (with_reducible exact ih0 _ _ _)
      | (with_reducible exact ih1 _ _ _)
      | (with_reducible exact ih2 _ _)
      | (with_reducible exact ih3 _ _ _)
      | (with_reducible exact ih4 _ _)
      | (with_reducible exact num_Add.mono _ _ _)
      | (with_reducible exact num_Mod.mono _ _ _)
      | (with_reducible exact num_Mul.mono _ _ _)
      | (with_reducible exact num_Parse.mono _ _)
      | (with_reducible exact num_Print.mono _ _)
      | (with_reducible exact num_Sqrt.mono _ _)
      | (with_reducible exact num_Sub.mono _ _ _)
      | (with_reducible exact octavolaw05_lives.mono _)
      | (with_reducible exact LeO.refl _)
      | (with_reducible exact LeO.none _)
      | (with_reducible refine LeO.ite ?_ ?_)
      | (with_reducible refine LeO.bind ?_ (fun _ => ?_))
      | exact ih0 _ _ _
      | exact ih1 _ _ _
      | exact ih2 _ _
      | exact ih3 _ _ _
      | exact ih4 _ _
      | exact num_Add.mono _ _ _
      | exact num_Mod.mono _ _ _
      | exact num_Mul.mono _ _ _
      | exact num_Parse.mono _ _
      | exact num_Print.mono _ _
      | exact num_Sqrt.mono _ _
      | exact num_Sub.mono _ _ _
      | exact octavolaw05_lives.mono _
      | exact LeO.none _
      | refine LeO.ite ?_ ?_
      | refine LeO.bind ?_ (fun _ => ?_)
    · intro y0 y1 y2
      unfold octavolaw05_NumBack.j1
      repeat' first
      | (with_reducible exact ih0 _ _ _)
      | (with_reducible exact ih1 _ _ _)
      | (with_reducible exact ih2 _ _)
      | (with_reducible exact ih3 _ _ _)
      | (with_reducible exact ih4 _ _)
      | (with_reducible exact num_Add.mono _ _ _)
      | (with_reducible exact num_Mod.mono _ _ _)
      | (with_reducible exact num_Mul.mono _ _ _)
      | (with_reducible exact num_Parse.mono _ _)
      | (with_reducible exact num_Print.mono _ _)
      | (with_reducible exact num_Sqrt.mono _ _)
      | (with_reducible exact num_Sub.mono _ _ _)
      | (with_reducible exact octavolaw05_lives.mono _)
      | (with_reducible exact LeO.refl _)
      | (with_reducible exact LeO.none _)
      | (with_reducible refine LeO.ite ?_ ?_)
      | (with_reducible refine LeO.bind ?_ (fun _ => ?_))
      | exact ih0 _ _ _
      | exact ih1 _ _ _
      | exact ih2 _ _
      | exact ih3 _ _ _
      | exact ih4 _ _
      | exact num_Add.mono _ _ _
      | exact num_Mod.mono _ _ _
      | exact num_Mul.mono _ _ _
      | exact num_Parse.mono _ _
      | exact num_Print.mono _ _
      | exact num_Sqrt.mono _ _
      | exact num_Sub.mono _ _ _
      | exact octavolaw05_lives.mono _
      | exact LeO.none _
      | refine LeO.ite ?_ ?_
      | refine LeO.bind ?_ (fun _ => ?_)
    · intro y0 y1
      unfold octavolaw05_NumBack.j2
      repeat' first
      | (with_reducible exact ih0 _ _ _)
      | (with_reducible exact ih1 _ _ _)
      | (with_reducible exact ih2 _ _)
      | (with_reducible exact ih3 _ _ _)
      | (with_reducible exact ih4 _ _)
      | (with_reducible exact num_Add.mono _ _ _)
      | (with_reducible exact num_Mod.mono _ _ _)
      | (with_reducible exact num_Mul.mono _ _ _)
      | (with_reducible exact num_Parse.mono _ _)
      | (with_reducible exact num_Print.mono _ _)
      | (with_reducible exact num_Sqrt.mono _ _)
      | (with_reducible exact num_Sub.mono _ _ _)
      | (with_reducible exact octavolaw05_lives.mono _)
      | (with_reducible exact LeO.refl _)
      | (with_reducible exact LeO.none _)
      | (with_reducible refine LeO.ite ?_ ?_)
      | (with_reducible refine LeO.bind ?_ (fun _ => ?_))
      | exact ih0 _ _ _
      | exact ih1 _ _ _
      | exact ih2 _ _
      | exact ih3 _ _ _
      | exact ih4 _ _
      | exact num_Add.mono _ _ _
      | exact num_Mod.mono _ _ _
      | exact num_Mul.mono _ _ _
      | exact num_Parse.mono _ _
      | exact num_Print.mono _ _
      | exact num_Sqrt.mono _ _
      | exact num_Sub.mono _ _ _
      | exact octavolaw05_lives.mono _
      | exact LeO.none _
      | refine LeO.ite ?_ ?_
      | refine LeO.bind ?_ (fun _ => ?_)
    · intro y0 y1 y2
      unfold octavolaw05_NumBack.j3
      repeat' first
      | (with_reducible exact ih0 _ _ _)
      | (with_reducible exact ih1 _ _ _)
      | (with_reducible exact ih2 _ _)
      | (with_reducible exact ih3 _ _ _)
      | (with_reducible exact ih4 _ _)
      | (with_reducible exact num_Add.mono _ _ _)
      | (with_reducible exact num_Mod.mono _ _ _)
      | (with_reducible exact num_Mul.mono _ _ _)
      | (with_reducible exact num_Parse.mono _ _)
      | (with_reducible exact num_Print.mono _ _)
      | (with_reducible exact num_Sqrt.mono _ _)
      | (with_reducible exact num_Sub.mono _ _ _)
      | (with_reducible exact octavolaw05_lives.mono _)
      | (with_reducible exact LeO.refl _)
      | (with_reducible exact LeO.none _)
      | (with_reducible refine LeO.ite ?_ ?_)
      | (with_reducible refine LeO.bind ?_ (fun _ => ?_))
      | exact ih0 _ _ _
      | exact ih1 _ _ _
      | exact ih2 _ _
      | exact ih3 _ _ _
      | exact ih4 _ _
      | exact num_Add.mono _ _ _
      | exact num_Mod.mono _ _ _
      | exact num_Mul.mono _ _ _
      | exact num_Parse.mono _ _
      | exact num_Print.mono _ _
      | exact num_Sqrt.mono _ _
      | exact num_Sub.mono _ _ _
      | exact octavolaw05_lives.mono _
      | exact LeO.none _
      | refine LeO.ite ?_ ?_
      | refine LeO.bind ?_ (fun _ => ?_)
    · intro y0 y1
      unfold octavolaw05_NumBack.j4
      repeat' first
      | (with_reducible exact ih0 _ _ _)
      | (with_reducible exact ih1 _ _ _)
      | (with_reducible exact ih2 _ _)
      | (with_reducible exact ih3 _ _ _)
      | (with_reducible exact ih4 _ _)
      | (with_reducible exact num_Add.mono _ _ _)
      | (with_reducible exact num_Mod.mono _ _ _)
      | (with_reducible exact num_Mul.mono _ _ _)
      | (with_reducible exact num_Parse.mono _ _)
      | (with_reducible exact num_Print.mono _ _)
      | (with_reducible exact num_Sqrt.mono _ _)
      | (with_reducible exact num_Sub.mono _ _ _)
      | (with_reducible exact octavolaw05_lives.mono _)
      | (with_reducible exact LeO.refl _)
      | (with_reducible exact LeO.none _)
      | (with_reducible refine LeO.ite ?_ ?_)
      | (with_reducible refine LeO.bind ?_ (fun _ => ?_))
      | exact ih0 _ _ _
      | exact ih1 _ _ _
      | exact ih2 _ _
      | exact ih3 _ _ _
      | exact ih4 _ _
      | exact num_Add.mono _ _ _
      | exact num_Mod.mono _ _ _
      | exact num_Mul.mono _ _ _
      | exact num_Parse.mono _ _
      | exact num_Print.mono _ _
      | exact num_Sqrt.mono _ _
      | exact num_Sub.mono _ _ _
      | exact octavolaw05_lives.mono _
      | exact LeO.none _
      | refine LeO.ite ?_ ?_
      | refine LeO.bind ?_ (fun _ => ?_)
theorem octavolaw05_NumBack.mono : ∀ a0 a1 k, LeO (octavolaw05_NumBack.f k a0 a1) (octavolaw05_NumBack.f (k + 1) a0 a1) := by
  intro a0 a1 k
  obtain ⟨ih0, ih1, ih2, ih3, ih4⟩ := octavolaw05_NumBack.mono_l k
  unfold octavolaw05_NumBack.f
  repeat' first
      | (with_reducible exact ih0 _ _ _)
      | (with_reducible exact ih1 _ _ _)
      | (with_reducible exact ih2 _ _)
      | (with_reducible exact ih3 _ _ _)
      | (with_reducible exact ih4 _ _)
      | (with_reducible exact num_Add.mono _ _ _)
      | (with_reducible exact num_Mod.mono _ _ _)
      | (with_reducible exact num_Mul.mono _ _ _)
      | (with_reducible exact num_Parse.mono _ _)
      | (with_reducible exact num_Print.mono _ _)
      | (with_reducible exact num_Sqrt.mono _ _)
      | (with_reducible exact num_Sub.mono _ _ _)
      | (with_reducible exact octavolaw05_lives.mono _)
      | (with_reducible exact LeO.refl _)
      | (with_reducible exact LeO.none _)
      | (with_reducible refine LeO.ite ?_ ?_)
      | (with_reducible refine LeO.bind ?_ (fun _ => ?_))
      | exact ih0 _ _ _
      | exact ih1 _ _ _
      | exact ih2 _ _
      | exact ih3 _ _ _
      | exact ih4 _ _
      | exact num_Add.mono _ _ _
      | exact num_Mod.mono _ _ _
      | exact num_Mul.mono _ _ _
      | exact num_Parse.mono _ _
      | exact num_Print.mono _ _
      | exact num_Sqrt.mono _ _
      | exact num_Sub.mono _ _ _
      | exact octavolaw05_lives.mono _
      | exact LeO.none _
      | refine LeO.ite ?_ ?_
      | refine LeO.bind ?_ (fun _ => ?_)
set_option maxHeartbeats 8000000 in
set_option maxRecDepth 100000 in
theorem octavolaw05_NumBack.calls (k : Nat) (a0 : Int) (a1 : Int) (r : Bool) (w : World) (h : octavolaw05_NumBack.f k a0 a1 = some r) :
    Calls Tryd.prog 8 #[.int .i64 a0, .int .i64 a1] w fun e w' => e = .returned (.bool r) ∧ Below w.heap.size w w' := by
  have HB := Aside0.mk (Below.refl w.heap.size w)
  have H : ((num_Good.f a0).bind fun t177 => (if t177 = true then ((num_Good.f a1).bind fun t178 => (octavolaw05_NumBack.j0 k a0 a1 (!t178))) else (octavolaw05_NumBack.j0 k a0 a1 true))) = some r := h
  clear h
  have HC3 := Aside0.mk H
  clear H
  go_enter Tryd.func8, Tryd.ntmps8
  go_upto_region 1 with (fail)
  go_cut [25] (fun v25 wc => ∃ (kq : Nat) (x25_2 : Bool), v25 = .bool x25_2 ∧ Aside0 (octavolaw05_NumBack.j0 kq a0 a1 x25_2 = some r) ∧ Aside0 (kq ≤ k) ∧ Aside0 (Below w.heap.size w wc))
  case first =>
    have H := HC3.out
    clear HC3
    replace H := Option.bind_eq_some_iff.mp H
    obtain ⟨t177, A40, H⟩ := H
    replace H : (if t177 = true then ((num_Good.f a1).bind fun t178 => (octavolaw05_NumBack.j0 k a0 a1 (!t178))) else (octavolaw05_NumBack.j0 k a0 a1 true)) = some r := H
    have A4 := Aside0.mk A40
    clear A40
    by_cases c5 : t177 = true
    · subst c5
      have H1 : ((num_Good.f a1).bind fun t178 => (octavolaw05_NumBack.j0 k a0 a1 (!t178))) = some r := by rw [if_pos rfl] at H; exact H
      clear H
      have H := H1
      clear H1
      replace H := Option.bind_eq_some_iff.mp H
      obtain ⟨t178, A60, H⟩ := H
      replace H : (octavolaw05_NumBack.j0 k a0 a1 (!t178)) = some r := H
      have A6 := Aside0.mk A60
      clear A60
      have H' := Aside0.mk H
      clear H
      go_wp2_with (first | ((with_reducible refine gate_callee (f := 14) rfl ?_); refine goesL_ (some 19) rfl rfl Tryd.func14 (by kernel_rfl) rfl #[.int .i64 a0] rfl (by (try simp only [List.map_toArray, List.map_cons, List.map_nil]); first | done | rfl | (simp only [List.length_drop, List.length_take]; rfl)) ?_; (with_reducible refine (num_Good.calls a0 true _ A4.out).mono ?_); rintro e w' ⟨rfl, ⟨nd, rfl⟩⟩; refine ⟨_, rfl, ?_⟩) | (go_at_call 14; (with_reducible refine (num_Good.calls a1 t178 _ A6.out).mono ?_); rintro e w' ⟨rfl, ⟨nd, rfl⟩⟩))
      go_meet
      case rel => exact ⟨_, (!t178), (by first | rfl | (simp; done) | (simp [*]; done)), H', ⟨by first | omega | exact Nat.le_refl _⟩, ⟨by repeat (first | (with_reducible first | exact HB.out | apply below_alloc | apply pw_below_drewN | apply below_drew1) | exact HB.out)⟩⟩
    · replace c5 := Bool.eq_false_iff.mpr c5
      subst c5
      have H1 : (octavolaw05_NumBack.j0 k a0 a1 true) = some r := by rw [if_neg (show ¬ (false = true) by decide)] at H; exact H
      clear H
      have H := H1
      clear H1
      have H' := Aside0.mk H
      clear H
      go_wp2_with (first | ((with_reducible refine gate_callee (f := 14) rfl ?_); refine goesL_ (some 19) rfl rfl Tryd.func14 (by kernel_rfl) rfl #[.int .i64 a0] rfl (by (try simp only [List.map_toArray, List.map_cons, List.map_nil]); first | done | rfl | (simp only [List.length_drop, List.length_take]; rfl)) ?_; (with_reducible refine (num_Good.calls a0 false _ A4.out).mono ?_); rintro e w' ⟨rfl, ⟨nd, rfl⟩⟩; refine ⟨_, rfl, ?_⟩))
      go_meet
      case rel => exact ⟨_, (true), (by first | rfl | (simp; done) | (simp [*]; done)), H', ⟨by first | omega | exact Nat.le_refl _⟩, ⟨by repeat (first | (with_reducible first | exact HB.out | apply below_alloc | apply pw_below_drewN | apply below_drew1) | exact HB.out)⟩⟩
  case rest =>
    clear HC3
    try clear c1
    try clear p2
    try clear c5
    obtain ⟨kq, x25_2, rfl, HA, HJ2, HB⟩ := hcut
    cases kq with
    | zero => exact absurd HA.out (by simp [octavolaw05_NumBack.j0])
    | succ kj2 =>
      have H := HA.out
      clear HA
      simp only [octavolaw05_NumBack.j0] at H
      by_cases c7 : x25_2 = true
      · subst c7
        have H1 : ((num_Good.f a0).bind fun t179 => ((octavoref05_Good.f a0).bind fun t180 => (if (t179 == t180) = true then ((num_Good.f a1).bind fun t181 => ((octavoref05_Good.f a1).bind fun t182 => (if (t181 == t182) = true then ((octavolaw05_lives.f kj2).bind fun t183 => (some t183)) else (some false)))) else (some false)))) = some r := by rw [if_pos rfl] at H; exact H
        clear H
        have H := H1
        clear H1
        replace H := Option.bind_eq_some_iff.mp H
        obtain ⟨t179, A80, H⟩ := H
        replace H : ((octavoref05_Good.f a0).bind fun t180 => (if (t179 == t180) = true then ((num_Good.f a1).bind fun t181 => ((octavoref05_Good.f a1).bind fun t182 => (if (t181 == t182) = true then ((octavolaw05_lives.f kj2).bind fun t183 => (some t183)) else (some false)))) else (some false))) = some r := H
        have A8 := Aside0.mk A80
        clear A80
        replace H := Option.bind_eq_some_iff.mp H
        obtain ⟨t180, A90, H⟩ := H
        replace H : (if (t179 == t180) = true then ((num_Good.f a1).bind fun t181 => ((octavoref05_Good.f a1).bind fun t182 => (if (t181 == t182) = true then ((octavolaw05_lives.f kj2).bind fun t183 => (some t183)) else (some false)))) else (some false)) = some r := H
        have A9 := Aside0.mk A90
        clear A90
        by_cases c10 : (t179 == t180) = true
        · rw [if_pos c10] at H
          have c10b0 : (t179 == t180) = true := c10
          (try (have c10b1 : decide (t179 = t180) = true := by simpa using c10))
          (try (have c10b2 : (t179 == t180) = true := by simpa using c10))
          clear c10
          replace H := Option.bind_eq_some_iff.mp H
          obtain ⟨t181, A110, H⟩ := H
          replace H : ((octavoref05_Good.f a1).bind fun t182 => (if (t181 == t182) = true then ((octavolaw05_lives.f kj2).bind fun t183 => (some t183)) else (some false))) = some r := H
          have A11 := Aside0.mk A110
          clear A110
          replace H := Option.bind_eq_some_iff.mp H
          obtain ⟨t182, A120, H⟩ := H
          replace H : (if (t181 == t182) = true then ((octavolaw05_lives.f kj2).bind fun t183 => (some t183)) else (some false)) = some r := H
          have A12 := Aside0.mk A120
          clear A120
          by_cases c13 : (t181 == t182) = true
          · rw [if_pos c13] at H
            have c13b0 : (t181 == t182) = true := c13
            (try (have c13b1 : decide (t181 = t182) = true := by simpa using c13))
            (try (have c13b2 : (t181 == t182) = true := by simpa using c13))
            clear c13
            replace H := Option.bind_eq_some_iff.mp H
            obtain ⟨t183, A140, H⟩ := H
            replace H : (some t183) = some r := H
            have A14 := Aside0.mk A140
            clear A140
            obtain rfl := Option.some.inj H
            go_wp2_with (first | ((with_reducible refine gate_callee (f := 14) rfl ?_); refine goesL_ (some 27) rfl rfl Tryd.func14 (by kernel_rfl) rfl #[.int .i64 a0] rfl (by (try simp only [List.map_toArray, List.map_cons, List.map_nil]); first | done | rfl | (simp only [List.length_drop, List.length_take]; rfl)) ?_; (with_reducible refine (num_Good.calls a0 t179 _ A8.out).mono ?_); rintro e w' ⟨rfl, ⟨nd, rfl⟩⟩; refine ⟨_, rfl, ?_⟩) | ((with_reducible refine gate_callee (f := 15) rfl ?_); refine goesL_ (some 29) rfl rfl Tryd.func15 (by kernel_rfl) rfl #[.int .i64 a0] rfl (by (try simp only [List.map_toArray, List.map_cons, List.map_nil]); first | done | rfl | (simp only [List.length_drop, List.length_take]; rfl)) ?_; (with_reducible refine (octavoref05_Good.calls a0 t180 _ A9.out).mono ?_); rintro e w' ⟨rfl, ⟨nd, rfl⟩⟩; refine ⟨_, rfl, ?_⟩) | (go_at_call 14; (with_reducible refine (num_Good.calls a1 t181 _ A11.out).mono ?_); rintro e w' ⟨rfl, ⟨nd, rfl⟩⟩) | (go_at_call 15; (with_reducible refine (octavoref05_Good.calls a1 t182 _ A12.out).mono ?_); rintro e w' ⟨rfl, ⟨nd, rfl⟩⟩) | (go_at_call 16; (with_reducible refine (octavolaw05_lives.calls kj2  t183 _ A14.out).mono ?_); rintro e w15 ⟨rfl, hb⟩; have n0_ := Aside0.mk (below_step (by repeat (first | (with_reducible first | exact HB.out | apply below_alloc | apply pw_below_drewN | apply below_drew1) | exact HB.out)) hb); clear HB; have HB := n0_; clear n0_; (try clear hb); (try clear hb2); (try clear hk); (try clear hi)))
            go_ret
            exact ⟨by first | rfl | (simp [errW_none, errW_some] <;> rfl) | (simp [*, errW_none, errW_some] <;> rfl), by repeat (first | (with_reducible first | exact HB.out | apply below_alloc | apply pw_below_drewN | apply below_drew1) | exact HB.out)⟩
          · rw [if_neg c13] at H
            have c13b0 : (t181 == t182) = false := by simpa using c13
            (try (have c13b1 : decide (t181 = t182) = false := by simpa using c13))
            (try (have c13b2 : (t181 == t182) = false := by simpa using c13))
            (try (have c13b3 : ¬ (t181 = t182) := by simpa using c13))
            clear c13
            obtain rfl := Option.some.inj H
            go_wp2_with (first | ((with_reducible refine gate_callee (f := 14) rfl ?_); refine goesL_ (some 27) rfl rfl Tryd.func14 (by kernel_rfl) rfl #[.int .i64 a0] rfl (by (try simp only [List.map_toArray, List.map_cons, List.map_nil]); first | done | rfl | (simp only [List.length_drop, List.length_take]; rfl)) ?_; (with_reducible refine (num_Good.calls a0 t179 _ A8.out).mono ?_); rintro e w' ⟨rfl, ⟨nd, rfl⟩⟩; refine ⟨_, rfl, ?_⟩) | ((with_reducible refine gate_callee (f := 15) rfl ?_); refine goesL_ (some 29) rfl rfl Tryd.func15 (by kernel_rfl) rfl #[.int .i64 a0] rfl (by (try simp only [List.map_toArray, List.map_cons, List.map_nil]); first | done | rfl | (simp only [List.length_drop, List.length_take]; rfl)) ?_; (with_reducible refine (octavoref05_Good.calls a0 t180 _ A9.out).mono ?_); rintro e w' ⟨rfl, ⟨nd, rfl⟩⟩; refine ⟨_, rfl, ?_⟩) | (go_at_call 14; (with_reducible refine (num_Good.calls a1 t181 _ A11.out).mono ?_); rintro e w' ⟨rfl, ⟨nd, rfl⟩⟩) | (go_at_call 15; (with_reducible refine (octavoref05_Good.calls a1 t182 _ A12.out).mono ?_); rintro e w' ⟨rfl, ⟨nd, rfl⟩⟩))
            go_ret
            exact ⟨by first | rfl | (simp [errW_none, errW_some] <;> rfl) | (simp [*, errW_none, errW_some] <;> rfl), by repeat (first | (with_reducible first | exact HB.out | apply below_alloc | apply pw_below_drewN | apply below_drew1) | exact HB.out)⟩
        · rw [if_neg c10] at H
          have c10b0 : (t179 == t180) = false := by simpa using c10
          (try (have c10b1 : decide (t179 = t180) = false := by simpa using c10))
          (try (have c10b2 : (t179 == t180) = false := by simpa using c10))
          (try (have c10b3 : ¬ (t179 = t180) := by simpa using c10))
          clear c10
          obtain rfl := Option.some.inj H
          go_wp2_with (first | ((with_reducible refine gate_callee (f := 14) rfl ?_); refine goesL_ (some 27) rfl rfl Tryd.func14 (by kernel_rfl) rfl #[.int .i64 a0] rfl (by (try simp only [List.map_toArray, List.map_cons, List.map_nil]); first | done | rfl | (simp only [List.length_drop, List.length_take]; rfl)) ?_; (with_reducible refine (num_Good.calls a0 t179 _ A8.out).mono ?_); rintro e w' ⟨rfl, ⟨nd, rfl⟩⟩; refine ⟨_, rfl, ?_⟩) | ((with_reducible refine gate_callee (f := 15) rfl ?_); refine goesL_ (some 29) rfl rfl Tryd.func15 (by kernel_rfl) rfl #[.int .i64 a0] rfl (by (try simp only [List.map_toArray, List.map_cons, List.map_nil]); first | done | rfl | (simp only [List.length_drop, List.length_take]; rfl)) ?_; (with_reducible refine (octavoref05_Good.calls a0 t180 _ A9.out).mono ?_); rintro e w' ⟨rfl, ⟨nd, rfl⟩⟩; refine ⟨_, rfl, ?_⟩))
          go_ret
          exact ⟨by first | rfl | (simp [errW_none, errW_some] <;> rfl) | (simp [*, errW_none, errW_some] <;> rfl), by repeat (first | (with_reducible first | exact HB.out | apply below_alloc | apply pw_below_drewN | apply below_drew1) | exact HB.out)⟩
      · replace c7 := Bool.eq_false_iff.mpr c7
        subst c7
        have H1 : ((num_Print.f kj2 a0).bind fun t184 => ((num_Parse.f kj2 t184).bind fun bt185 => (if bt185.2 = true then (octavolaw05_NumBack.j1 kj2 a0 a1 (bt185.1 != a0)) else (octavolaw05_NumBack.j1 kj2 a0 a1 true)))) = some r := by rw [if_neg (show ¬ (false = true) by decide)] at H; exact H
        clear H
        have H := H1
        clear H1
        replace H := Option.bind_eq_some_iff.mp H
        obtain ⟨t184, A160, H⟩ := H
        replace H : ((num_Parse.f kj2 t184).bind fun bt185 => (if bt185.2 = true then (octavolaw05_NumBack.j1 kj2 a0 a1 (bt185.1 != a0)) else (octavolaw05_NumBack.j1 kj2 a0 a1 true))) = some r := H
        have A16 := Aside0.mk A160
        clear A160
        replace H := Option.bind_eq_some_iff.mp H
        obtain ⟨⟨t185, t186⟩, A170, H⟩ := H
        replace H : (if t186 = true then (octavolaw05_NumBack.j1 kj2 a0 a1 (t185 != a0)) else (octavolaw05_NumBack.j1 kj2 a0 a1 true)) = some r := H
        have A17 := Aside0.mk A170
        clear A170
        have HC18 := Aside0.mk H
        clear H
        go_upto_region 4 with (first | ((with_reducible refine gate_callee (f := 12) rfl ?_); refine goesL_ (some 43) rfl rfl Tryd.func12 (by kernel_rfl) rfl #[.int .i64 a0] rfl (by (try simp only [List.map_toArray, List.map_cons, List.map_nil]); first | done | rfl | (simp only [List.length_drop, List.length_take]; rfl)) ?_; (with_reducible refine (num_Print.calls kj2 a0 t184 _ A16.out).mono ?_); rintro e w19 ⟨rfl, hb⟩; refine ⟨_, rfl, ?_⟩; have n0_ := Aside0.mk (below_step (by repeat (first | (with_reducible first | exact HB.out | apply below_alloc | apply pw_below_drewN | apply below_drew1) | exact HB.out)) hb); clear HB; have HB := n0_; clear n0_; (try clear hb); (try clear hb2); (try clear hk); (try clear hi)) | ((with_reducible refine gate_callee (f := 10) rfl ?_); refine goesL_ (some 44) rfl rfl Tryd.func10 (by kernel_rfl) rfl #[.string t184] rfl (by (try simp only [List.map_toArray, List.map_cons, List.map_nil]); first | done | rfl | (simp only [List.length_drop, List.length_take]; rfl)) ?_; (with_reducible refine (num_Parse.calls kj2 t184 t185 t186 _ A17.out).mono ?_); rintro e w20 ⟨rfl, hb⟩; refine ⟨_, rfl, ?_⟩; have n0_ := Aside0.mk (below_step (by repeat (first | (with_reducible first | exact HB.out | apply below_alloc | apply pw_below_drewN | apply below_drew1) | exact HB.out)) hb); clear HB; have HB := n0_; clear n0_; (try clear hb); (try clear hb2); (try clear hk); (try clear hi)))
        (try simp only [Act.put, List.setIfInBounds_toArray, List.set_cons_zero, List.set_cons_succ])
        go_cut [53] (fun v53 wc => ∃ (kq : Nat) (x53_17 : Bool), v53 = .bool x53_17 ∧ Aside0 (octavolaw05_NumBack.j1 kq a0 a1 x53_17 = some r) ∧ Aside0 (kq ≤ kj2) ∧ Aside0 (Below w.heap.size w wc))
        case first =>
          have H := HC18.out
          clear HC18
          by_cases c21 : t186 = true
          · subst c21
            have H1 : (octavolaw05_NumBack.j1 kj2 a0 a1 (t185 != a0)) = some r := by rw [if_pos rfl] at H; exact H
            clear H
            have H := H1
            clear H1
            have H' := Aside0.mk H
            clear H
            go_wp2
            go_meet
            case rel => exact ⟨_, ((t185 != a0)), (by first | rfl | (simp; done) | (simp [*]; done)), H', ⟨by have := HJ2.out; first | omega | exact Nat.le_refl _⟩, ⟨by repeat (first | (with_reducible first | exact HB.out | apply below_alloc | apply pw_below_drewN | apply below_drew1) | exact HB.out)⟩⟩
          · replace c21 := Bool.eq_false_iff.mpr c21
            subst c21
            have H1 : (octavolaw05_NumBack.j1 kj2 a0 a1 true) = some r := by rw [if_neg (show ¬ (false = true) by decide)] at H; exact H
            clear H
            have H := H1
            clear H1
            have H' := Aside0.mk H
            clear H
            go_wp2
            go_meet
            case rel => exact ⟨_, (true), (by first | rfl | (simp; done) | (simp [*]; done)), H', ⟨by have := HJ2.out; first | omega | exact Nat.le_refl _⟩, ⟨by repeat (first | (with_reducible first | exact HB.out | apply below_alloc | apply pw_below_drewN | apply below_drew1) | exact HB.out)⟩⟩
        case rest =>
          clear HC18
          try clear c1
          try clear c2
          try clear p2
          try clear c5
          try clear c7
          try clear c8
          try clear c10
          try clear c10b0
          try clear c10b1
          try clear c10b2
          try clear c12
          try clear c13
          try clear c13b0
          try clear c13b1
          try clear c13b2
          try clear c14
          try clear c15
          try clear c21
          try clear p2
          obtain ⟨kq, x53_17, rfl, HA, HJ17, HB⟩ := hcut
          cases kq with
          | zero => exact absurd HA.out (by simp [octavolaw05_NumBack.j1])
          | succ kj17 =>
            have H := HA.out
            clear HA
            simp only [octavolaw05_NumBack.j1] at H
            by_cases c22 : x53_17 = true
            · subst c22
              have H1 : (some false) = some r := by rw [if_pos rfl] at H; exact H
              clear H
              have H := H1
              clear H1
              obtain rfl := Option.some.inj H
              go_wp2
              go_ret
              exact ⟨by first | rfl | (simp [errW_none, errW_some] <;> rfl) | (simp [*, errW_none, errW_some] <;> rfl), by repeat (first | (with_reducible first | exact HB.out | apply below_alloc | apply pw_below_drewN | apply below_drew1) | exact HB.out)⟩
            · replace c22 := Bool.eq_false_iff.mpr c22
              subst c22
              have H1 : ((num_Add.f kj17 a0 a1).bind fun bt187 => (if bt187.2 = true then ((num_Sub.f kj17 bt187.1 a1).bind fun bt189 => (if bt189.2 = true then (if bt189.1 = a0 then (octavolaw05_NumBack.j2 kj17 a0 a1) else (some false)) else (some false))) else (octavolaw05_NumBack.j2 kj17 a0 a1))) = some r := by rw [if_neg (show ¬ (false = true) by decide)] at H; exact H
              clear H
              have H := H1
              clear H1
              replace H := Option.bind_eq_some_iff.mp H
              obtain ⟨⟨t187, t188⟩, A230, H⟩ := H
              replace H : (if t188 = true then ((num_Sub.f kj17 t187 a1).bind fun bt189 => (if bt189.2 = true then (if bt189.1 = a0 then (octavolaw05_NumBack.j2 kj17 a0 a1) else (some false)) else (some false))) else (octavolaw05_NumBack.j2 kj17 a0 a1)) = some r := H
              have A23 := Aside0.mk A230
              clear A230
              have HC24 := Aside0.mk H
              clear H
              go_upto_if 60 with (first | ((with_reducible refine gate_callee (f := 30) rfl ?_); refine goesL_ (some 57) rfl rfl Tryd.func30 (by kernel_rfl) rfl #[.int .i64 a0, .int .i64 a1] rfl (by (try simp only [List.map_toArray, List.map_cons, List.map_nil]); first | done | rfl | (simp only [List.length_drop, List.length_take]; rfl)) ?_; (with_reducible refine (num_Add.calls kj17 a0 a1 t187 t188 _ A23.out).mono ?_); rintro e w25 ⟨rfl, hb⟩; refine ⟨_, rfl, ?_⟩; have n0_ := Aside0.mk (below_step (by repeat (first | (with_reducible first | exact HB.out | apply below_alloc | apply pw_below_drewN | apply below_drew1) | exact HB.out)) hb); clear HB; have HB := n0_; clear n0_; (try clear hb); (try clear hb2); (try clear hk); (try clear hi)))
              (try simp only [Act.put, List.setIfInBounds_toArray, List.set_cons_zero, List.set_cons_succ])
              go_cut [] (fun wc => ∃ (kq : Nat), Aside0 (octavolaw05_NumBack.j2 kq a0 a1 = some r) ∧ Aside0 (kq ≤ kj17) ∧ Aside0 (Below w.heap.size w wc))
              case first =>
                have H := HC24.out
                clear HC24
                by_cases c26 : t188 = true
                · subst c26
                  have H1 : ((num_Sub.f kj17 t187 a1).bind fun bt189 => (if bt189.2 = true then (if bt189.1 = a0 then (octavolaw05_NumBack.j2 kj17 a0 a1) else (some false)) else (some false))) = some r := by rw [if_pos rfl] at H; exact H
                  clear H
                  have H := H1
                  clear H1
                  replace H := Option.bind_eq_some_iff.mp H
                  obtain ⟨⟨t189, t190⟩, A270, H⟩ := H
                  replace H : (if t190 = true then (if t189 = a0 then (octavolaw05_NumBack.j2 kj17 a0 a1) else (some false)) else (some false)) = some r := H
                  have A27 := Aside0.mk A270
                  clear A270
                  by_cases c28 : t190 = true
                  · subst c28
                    have H1 : (if t189 = a0 then (octavolaw05_NumBack.j2 kj17 a0 a1) else (some false)) = some r := by rw [if_pos rfl] at H; exact H
                    clear H
                    have H := H1
                    clear H1
                    by_cases c29 : t189 = a0
                    · rw [if_pos c29] at H
                      have c29b0 : (t189 == a0) = true := beq_iff_eq.mpr c29
                      have c29b1 : (t189 != a0) = false := bne_eq_false_iff_eq.mpr c29
                      clear c29
                      (first | rw [c29b0] | (simp only [i64_w, i32_w]; rw [c29b0]) | skip)
                      have H' := Aside0.mk H
                      clear H
                      go_wp2_with (first | ((with_reducible refine gate_callee (f := 31) rfl ?_); refine goesL_ (some 64) rfl rfl Tryd.func31 (by kernel_rfl) rfl #[.int .i64 t187, .int .i64 a1] rfl (by (try simp only [List.map_toArray, List.map_cons, List.map_nil]); first | done | rfl | (simp only [List.length_drop, List.length_take]; rfl)) ?_; (with_reducible refine (num_Sub.calls kj17 t187 a1 t189 true _ A27.out).mono ?_); rintro e w30 ⟨rfl, hb⟩; refine ⟨_, rfl, ?_⟩; have n0_ := Aside0.mk (below_step (by repeat (first | (with_reducible first | exact HB.out | apply below_alloc | apply pw_below_drewN | apply below_drew1) | exact HB.out)) hb); clear HB; have HB := n0_; clear n0_; (try clear hb); (try clear hb2); (try clear hk); (try clear hi)))
                      go_meet
                      case rel => exact ⟨_, H', ⟨by have := HJ2.out; have := HJ17.out; first | omega | exact Nat.le_refl _⟩, ⟨by repeat (first | (with_reducible first | exact HB.out | apply below_alloc | apply pw_below_drewN | apply below_drew1) | exact HB.out)⟩⟩
                    · rw [if_neg c29] at H
                      have c29b0 : (t189 == a0) = false := beq_eq_false_iff_ne.mpr c29
                      have c29b1 : (t189 != a0) = true := bne_iff_ne.mpr c29
                      (first | rw [c29b0] | (simp only [i64_w, i32_w]; rw [c29b0]) | skip)
                      obtain rfl := Option.some.inj H
                      go_wp2_with (first | ((with_reducible refine gate_callee (f := 31) rfl ?_); refine goesL_ (some 64) rfl rfl Tryd.func31 (by kernel_rfl) rfl #[.int .i64 t187, .int .i64 a1] rfl (by (try simp only [List.map_toArray, List.map_cons, List.map_nil]); first | done | rfl | (simp only [List.length_drop, List.length_take]; rfl)) ?_; (with_reducible refine (num_Sub.calls kj17 t187 a1 t189 true _ A27.out).mono ?_); rintro e w31 ⟨rfl, hb⟩; refine ⟨_, rfl, ?_⟩; have n0_ := Aside0.mk (below_step (by repeat (first | (with_reducible first | exact HB.out | apply below_alloc | apply pw_below_drewN | apply below_drew1) | exact HB.out)) hb); clear HB; have HB := n0_; clear n0_; (try clear hb); (try clear hb2); (try clear hk); (try clear hi)))
                      go_ret
                      exact ⟨by first | rfl | (simp [errW_none, errW_some] <;> rfl) | (simp [*, errW_none, errW_some] <;> rfl), by repeat (first | (with_reducible first | exact HB.out | apply below_alloc | apply pw_below_drewN | apply below_drew1) | exact HB.out)⟩
                  · replace c28 := Bool.eq_false_iff.mpr c28
                    subst c28
                    have H1 : (some false) = some r := by rw [if_neg (show ¬ (false = true) by decide)] at H; exact H
                    clear H
                    have H := H1
                    clear H1
                    obtain rfl := Option.some.inj H
                    go_wp2_with (first | ((with_reducible refine gate_callee (f := 31) rfl ?_); refine goesL_ (some 64) rfl rfl Tryd.func31 (by kernel_rfl) rfl #[.int .i64 t187, .int .i64 a1] rfl (by (try simp only [List.map_toArray, List.map_cons, List.map_nil]); first | done | rfl | (simp only [List.length_drop, List.length_take]; rfl)) ?_; (with_reducible refine (num_Sub.calls kj17 t187 a1 t189 false _ A27.out).mono ?_); rintro e w32 ⟨rfl, hb⟩; refine ⟨_, rfl, ?_⟩; have n0_ := Aside0.mk (below_step (by repeat (first | (with_reducible first | exact HB.out | apply below_alloc | apply pw_below_drewN | apply below_drew1) | exact HB.out)) hb); clear HB; have HB := n0_; clear n0_; (try clear hb); (try clear hb2); (try clear hk); (try clear hi)))
                    go_ret
                    exact ⟨by first | rfl | (simp [errW_none, errW_some] <;> rfl) | (simp [*, errW_none, errW_some] <;> rfl), by repeat (first | (with_reducible first | exact HB.out | apply below_alloc | apply pw_below_drewN | apply below_drew1) | exact HB.out)⟩
                · replace c26 := Bool.eq_false_iff.mpr c26
                  subst c26
                  have H1 : (octavolaw05_NumBack.j2 kj17 a0 a1) = some r := by rw [if_neg (show ¬ (false = true) by decide)] at H; exact H
                  clear H
                  have H := H1
                  clear H1
                  have H' := Aside0.mk H
                  clear H
                  go_wp2
                  go_meet
                  case rel => exact ⟨_, H', ⟨by have := HJ2.out; have := HJ17.out; first | omega | exact Nat.le_refl _⟩, ⟨by repeat (first | (with_reducible first | exact HB.out | apply below_alloc | apply pw_below_drewN | apply below_drew1) | exact HB.out)⟩⟩
              case rest =>
                clear HC24
                try clear c1
                try clear c2
                try clear p2
                try clear c3
                try clear c5
                try clear c7
                try clear c8
                try clear c10
                try clear c10b0
                try clear c10b1
                try clear c10b2
                try clear c12
                try clear c13
                try clear c13b0
                try clear c13b1
                try clear c13b2
                try clear c14
                try clear c15
                try clear c21
                try clear c22
                try clear c26
                try clear c28
                try clear c29
                try clear c29b0
                try clear c29b1
                try clear c30
                try clear c31
                try clear p2
                obtain ⟨kq, HA, HJ23, HB⟩ := hcut
                cases kq with
                | zero => exact absurd HA.out (by simp [octavolaw05_NumBack.j2])
                | succ kj23 =>
                  have H := HA.out
                  clear HA
                  simp only [octavolaw05_NumBack.j2] at H
                  replace H := Option.bind_eq_some_iff.mp H
                  obtain ⟨⟨t191, t192⟩, A330, H⟩ := H
                  replace H : ((num_Mul.f kj23 a1 a0).bind fun bt193 => (if t191 = bt193.1 then (octavolaw05_NumBack.j3 kj23 a0 a1 (t192 != bt193.2)) else (octavolaw05_NumBack.j3 kj23 a0 a1 true))) = some r := H
                  have A33 := Aside0.mk A330
                  clear A330
                  replace H := Option.bind_eq_some_iff.mp H
                  obtain ⟨⟨t193, t194⟩, A340, H⟩ := H
                  replace H : (if t191 = t193 then (octavolaw05_NumBack.j3 kj23 a0 a1 (t192 != t194)) else (octavolaw05_NumBack.j3 kj23 a0 a1 true)) = some r := H
                  have A34 := Aside0.mk A340
                  clear A340
                  have HC35 := Aside0.mk H
                  clear H
                  go_upto_region 13 with (first | ((with_reducible refine gate_callee (f := 17) rfl ?_); refine goesL_ (some 77) rfl rfl Tryd.func17 (by kernel_rfl) rfl #[.int .i64 a0, .int .i64 a1] rfl (by (try simp only [List.map_toArray, List.map_cons, List.map_nil]); first | done | rfl | (simp only [List.length_drop, List.length_take]; rfl)) ?_; (with_reducible refine (num_Mul.calls kj23 a0 a1 t191 t192 _ A33.out).mono ?_); rintro e w36 ⟨rfl, hb⟩; refine ⟨_, rfl, ?_⟩; have n0_ := Aside0.mk (below_step (by repeat (first | (with_reducible first | exact HB.out | apply below_alloc | apply pw_below_drewN | apply below_drew1) | exact HB.out)) hb); clear HB; have HB := n0_; clear n0_; (try clear hb); (try clear hb2); (try clear hk); (try clear hi)) | ((with_reducible refine gate_callee (f := 17) rfl ?_); refine goesL_ (some 83) rfl rfl Tryd.func17 (by kernel_rfl) rfl #[.int .i64 a1, .int .i64 a0] rfl (by (try simp only [List.map_toArray, List.map_cons, List.map_nil]); first | done | rfl | (simp only [List.length_drop, List.length_take]; rfl)) ?_; (with_reducible refine (num_Mul.calls kj23 a1 a0 t193 t194 _ A34.out).mono ?_); rintro e w37 ⟨rfl, hb⟩; refine ⟨_, rfl, ?_⟩; have n0_ := Aside0.mk (below_step (by repeat (first | (with_reducible first | exact HB.out | apply below_alloc | apply pw_below_drewN | apply below_drew1) | exact HB.out)) hb); clear HB; have HB := n0_; clear n0_; (try clear hb); (try clear hb2); (try clear hk); (try clear hi)))
                  (try simp only [Act.put, List.setIfInBounds_toArray, List.set_cons_zero, List.set_cons_succ])
                  go_cut [93] (fun v93 wc => ∃ (kq : Nat) (x93_34 : Bool), v93 = .bool x93_34 ∧ Aside0 (octavolaw05_NumBack.j3 kq a0 a1 x93_34 = some r) ∧ Aside0 (kq ≤ kj23) ∧ Aside0 (Below w.heap.size w wc))
                  case first =>
                    have H := HC35.out
                    clear HC35
                    by_cases c38 : t191 = t193
                    · rw [if_pos c38] at H
                      have c38b0 : (t191 == t193) = true := beq_iff_eq.mpr c38
                      have c38b1 : (t191 != t193) = false := bne_eq_false_iff_eq.mpr c38
                      clear c38
                      (first | rw [c38b0] | (simp only [i64_w, i32_w]; rw [c38b0]) | skip)
                      have H' := Aside0.mk H
                      clear H
                      go_wp2
                      go_meet
                      case rel => exact ⟨_, ((t192 != t194)), (by first | rfl | (simp; done) | (simp [*]; done)), H', ⟨by have := HJ2.out; have := HJ17.out; have := HJ23.out; first | omega | exact Nat.le_refl _⟩, ⟨by repeat (first | (with_reducible first | exact HB.out | apply below_alloc | apply pw_below_drewN | apply below_drew1) | exact HB.out)⟩⟩
                    · rw [if_neg c38] at H
                      have c38b0 : (t191 == t193) = false := beq_eq_false_iff_ne.mpr c38
                      have c38b1 : (t191 != t193) = true := bne_iff_ne.mpr c38
                      (first | rw [c38b0] | (simp only [i64_w, i32_w]; rw [c38b0]) | skip)
                      have H' := Aside0.mk H
                      clear H
                      go_wp2
                      go_meet
                      case rel => exact ⟨_, (true), (by first | rfl | (simp; done) | (simp [*]; done)), H', ⟨by have := HJ2.out; have := HJ17.out; have := HJ23.out; first | omega | exact Nat.le_refl _⟩, ⟨by repeat (first | (with_reducible first | exact HB.out | apply below_alloc | apply pw_below_drewN | apply below_drew1) | exact HB.out)⟩⟩
                  case rest =>
                    clear HC35
                    try clear c1
                    try clear c2
                    try clear p2
                    try clear c3
                    try clear c5
                    try clear c7
                    try clear c8
                    try clear c10
                    try clear c10b0
                    try clear c10b1
                    try clear c10b2
                    try clear c12
                    try clear c13
                    try clear c13b0
                    try clear c13b1
                    try clear c13b2
                    try clear c14
                    try clear c15
                    try clear c17
                    try clear c21
                    try clear c22
                    try clear c26
                    try clear c28
                    try clear c29
                    try clear c29b0
                    try clear c29b1
                    try clear c30
                    try clear c31
                    try clear c38
                    try clear c38b0
                    try clear c38b1
                    try clear p2
                    obtain ⟨kq, x93_34, rfl, HA, HJ34, HB⟩ := hcut
                    cases kq with
                    | zero => exact absurd HA.out (by simp [octavolaw05_NumBack.j3])
                    | succ kj34 =>
                      have H := HA.out
                      clear HA
                      simp only [octavolaw05_NumBack.j3] at H
                      by_cases c39 : x93_34 = true
                      · subst c39
                        have H1 : (some false) = some r := by rw [if_pos rfl] at H; exact H
                        clear H
                        have H := H1
                        clear H1
                        obtain rfl := Option.some.inj H
                        go_wp2
                        go_ret
                        exact ⟨by first | rfl | (simp [errW_none, errW_some] <;> rfl) | (simp [*, errW_none, errW_some] <;> rfl), by repeat (first | (with_reducible first | exact HB.out | apply below_alloc | apply pw_below_drewN | apply below_drew1) | exact HB.out)⟩
                      · replace c39 := Bool.eq_false_iff.mpr c39
                        subst c39
                        have H1 : ((num_Mod.f kj34 a0 a1).bind fun bt195 => (if bt195.2 = true then (if a1 > 0 then (if bt195.1 < 0 then (octavolaw05_NumBack.j4 kj34 a0 true) else (if bt195.1 ≥ a1 then (octavolaw05_NumBack.j4 kj34 a0 true) else (if a1 < 0 then (if bt195.1 > 0 then (octavolaw05_NumBack.j4 kj34 a0 true) else (octavolaw05_NumBack.j4 kj34 a0 (decide (bt195.1 ≤ a1)))) else (octavolaw05_NumBack.j4 kj34 a0 false)))) else (if a1 < 0 then (if bt195.1 > 0 then (octavolaw05_NumBack.j4 kj34 a0 true) else (octavolaw05_NumBack.j4 kj34 a0 (decide (bt195.1 ≤ a1)))) else (octavolaw05_NumBack.j4 kj34 a0 false))) else (octavolaw05_NumBack.j4 kj34 a0 false))) = some r := by rw [if_neg (show ¬ (false = true) by decide)] at H; exact H
                        clear H
                        have H := H1
                        clear H1
                        replace H := Option.bind_eq_some_iff.mp H
                        obtain ⟨⟨t195, t196⟩, A400, H⟩ := H
                        replace H : (if t196 = true then (if a1 > 0 then (if t195 < 0 then (octavolaw05_NumBack.j4 kj34 a0 true) else (if t195 ≥ a1 then (octavolaw05_NumBack.j4 kj34 a0 true) else (if a1 < 0 then (if t195 > 0 then (octavolaw05_NumBack.j4 kj34 a0 true) else (octavolaw05_NumBack.j4 kj34 a0 (decide (t195 ≤ a1)))) else (octavolaw05_NumBack.j4 kj34 a0 false)))) else (if a1 < 0 then (if t195 > 0 then (octavolaw05_NumBack.j4 kj34 a0 true) else (octavolaw05_NumBack.j4 kj34 a0 (decide (t195 ≤ a1)))) else (octavolaw05_NumBack.j4 kj34 a0 false))) else (octavolaw05_NumBack.j4 kj34 a0 false)) = some r := H
                        have A40 := Aside0.mk A400
                        clear A400
                        have HC41 := Aside0.mk H
                        clear H
                        go_upto_region 16 with (first | ((with_reducible refine gate_callee (f := 32) rfl ?_); refine goesL_ (some 97) rfl rfl Tryd.func32 (by kernel_rfl) rfl #[.int .i64 a0, .int .i64 a1] rfl (by (try simp only [List.map_toArray, List.map_cons, List.map_nil]); first | done | rfl | (simp only [List.length_drop, List.length_take]; rfl)) ?_; (with_reducible refine (num_Mod.calls kj34 a0 a1 t195 t196 _ A40.out).mono ?_); rintro e w42 ⟨rfl, hb⟩; refine ⟨_, rfl, ?_⟩; have n0_ := Aside0.mk (below_step (by repeat (first | (with_reducible first | exact HB.out | apply below_alloc | apply pw_below_drewN | apply below_drew1) | exact HB.out)) hb); clear HB; have HB := n0_; clear n0_; (try clear hb); (try clear hb2); (try clear hk); (try clear hi)))
                        (try simp only [Act.put, List.setIfInBounds_toArray, List.set_cons_zero, List.set_cons_succ])
                        go_cut [126] (fun v126 wc => ∃ (kq : Nat) (x126_40 : Bool), v126 = .bool x126_40 ∧ Aside0 (octavolaw05_NumBack.j4 kq a0 x126_40 = some r) ∧ Aside0 (kq ≤ kj34) ∧ Aside0 (Below w.heap.size w wc))
                        case first =>
                          have H := HC41.out
                          clear HC41
                          by_cases c43 : t196 = true
                          · subst c43
                            have H1 : (if a1 > 0 then (if t195 < 0 then (octavolaw05_NumBack.j4 kj34 a0 true) else (if t195 ≥ a1 then (octavolaw05_NumBack.j4 kj34 a0 true) else (if a1 < 0 then (if t195 > 0 then (octavolaw05_NumBack.j4 kj34 a0 true) else (octavolaw05_NumBack.j4 kj34 a0 (decide (t195 ≤ a1)))) else (octavolaw05_NumBack.j4 kj34 a0 false)))) else (if a1 < 0 then (if t195 > 0 then (octavolaw05_NumBack.j4 kj34 a0 true) else (octavolaw05_NumBack.j4 kj34 a0 (decide (t195 ≤ a1)))) else (octavolaw05_NumBack.j4 kj34 a0 false))) = some r := by rw [if_pos rfl] at H; exact H
                            clear H
                            have H := H1
                            clear H1
                            by_cases c44 : a1 > 0
                            · rw [if_pos c44] at H
                              have c44b0 : decide (0 < a1) = true := decide_eq_true c44
                              clear c44
                              (first | rw [c44b0] | (simp only [i64_w, i32_w]; rw [c44b0]) | skip)
                              by_cases c45 : t195 < 0
                              · rw [if_pos c45] at H
                                have c45b0 : decide (t195 < 0) = true := decide_eq_true c45
                                clear c45
                                have H' := Aside0.mk H
                                clear H
                                go_wp2
                                go_meet
                                case rel => exact ⟨_, (true), (by first | rfl | (simp; done) | (simp [*]; done)), H', ⟨by have := HJ2.out; have := HJ17.out; have := HJ23.out; have := HJ34.out; first | omega | exact Nat.le_refl _⟩, ⟨by repeat (first | (with_reducible first | exact HB.out | apply below_alloc | apply pw_below_drewN | apply below_drew1) | exact HB.out)⟩⟩
                              · rw [if_neg c45] at H
                                have c45b0 : decide (t195 < 0) = false := decide_eq_false c45
                                clear c45
                                by_cases c46 : t195 ≥ a1
                                · rw [if_pos c46] at H
                                  have c46b0 : decide (a1 ≤ t195) = true := decide_eq_true c46
                                  clear c46
                                  have H' := Aside0.mk H
                                  clear H
                                  go_wp2
                                  go_meet
                                  case rel => exact ⟨_, (true), (by first | rfl | (simp; done) | (simp [*]; done)), H', ⟨by have := HJ2.out; have := HJ17.out; have := HJ23.out; have := HJ34.out; first | omega | exact Nat.le_refl _⟩, ⟨by repeat (first | (with_reducible first | exact HB.out | apply below_alloc | apply pw_below_drewN | apply below_drew1) | exact HB.out)⟩⟩
                                · rw [if_neg c46] at H
                                  have c46b0 : decide (a1 ≤ t195) = false := decide_eq_false c46
                                  clear c46
                                  by_cases c47 : a1 < 0
                                  · rw [if_pos c47] at H
                                    have c47b0 : decide (a1 < 0) = true := decide_eq_true c47
                                    clear c47
                                    by_cases c48 : t195 > 0
                                    · rw [if_pos c48] at H
                                      have c48b0 : decide (0 < t195) = true := decide_eq_true c48
                                      clear c48
                                      have H' := Aside0.mk H
                                      clear H
                                      go_wp2
                                      go_meet
                                      case rel => exact ⟨_, (true), (by first | rfl | (simp; done) | (simp [*]; done)), H', ⟨by have := HJ2.out; have := HJ17.out; have := HJ23.out; have := HJ34.out; first | omega | exact Nat.le_refl _⟩, ⟨by repeat (first | (with_reducible first | exact HB.out | apply below_alloc | apply pw_below_drewN | apply below_drew1) | exact HB.out)⟩⟩
                                    · rw [if_neg c48] at H
                                      have c48b0 : decide (0 < t195) = false := decide_eq_false c48
                                      clear c48
                                      have H' := Aside0.mk H
                                      clear H
                                      go_wp2
                                      go_meet
                                      case rel => exact ⟨_, (decide (t195 ≤ a1)), (by first | rfl | (simp; done) | (simp [*]; done)), H', ⟨by have := HJ2.out; have := HJ17.out; have := HJ23.out; have := HJ34.out; first | omega | exact Nat.le_refl _⟩, ⟨by repeat (first | (with_reducible first | exact HB.out | apply below_alloc | apply pw_below_drewN | apply below_drew1) | exact HB.out)⟩⟩
                                  · rw [if_neg c47] at H
                                    have c47b0 : decide (a1 < 0) = false := decide_eq_false c47
                                    clear c47
                                    have H' := Aside0.mk H
                                    clear H
                                    go_wp2
                                    go_meet
                                    case rel => exact ⟨_, (false), (by first | rfl | (simp; done) | (simp [*]; done)), H', ⟨by have := HJ2.out; have := HJ17.out; have := HJ23.out; have := HJ34.out; first | omega | exact Nat.le_refl _⟩, ⟨by repeat (first | (with_reducible first | exact HB.out | apply below_alloc | apply pw_below_drewN | apply below_drew1) | exact HB.out)⟩⟩
                            · rw [if_neg c44] at H
                              have c44b0 : decide (0 < a1) = false := decide_eq_false c44
                              clear c44
                              (first | rw [c44b0] | (simp only [i64_w, i32_w]; rw [c44b0]) | skip)
                              by_cases c49 : a1 < 0
                              · rw [if_pos c49] at H
                                have c49b0 : decide (a1 < 0) = true := decide_eq_true c49
                                clear c49
                                by_cases c50 : t195 > 0
                                · rw [if_pos c50] at H
                                  have c50b0 : decide (0 < t195) = true := decide_eq_true c50
                                  clear c50
                                  have H' := Aside0.mk H
                                  clear H
                                  go_wp2
                                  go_meet
                                  case rel => exact ⟨_, (true), (by first | rfl | (simp; done) | (simp [*]; done)), H', ⟨by have := HJ2.out; have := HJ17.out; have := HJ23.out; have := HJ34.out; first | omega | exact Nat.le_refl _⟩, ⟨by repeat (first | (with_reducible first | exact HB.out | apply below_alloc | apply pw_below_drewN | apply below_drew1) | exact HB.out)⟩⟩
                                · rw [if_neg c50] at H
                                  have c50b0 : decide (0 < t195) = false := decide_eq_false c50
                                  clear c50
                                  have H' := Aside0.mk H
                                  clear H
                                  go_wp2
                                  go_meet
                                  case rel => exact ⟨_, (decide (t195 ≤ a1)), (by first | rfl | (simp; done) | (simp [*]; done)), H', ⟨by have := HJ2.out; have := HJ17.out; have := HJ23.out; have := HJ34.out; first | omega | exact Nat.le_refl _⟩, ⟨by repeat (first | (with_reducible first | exact HB.out | apply below_alloc | apply pw_below_drewN | apply below_drew1) | exact HB.out)⟩⟩
                              · rw [if_neg c49] at H
                                have c49b0 : decide (a1 < 0) = false := decide_eq_false c49
                                clear c49
                                have H' := Aside0.mk H
                                clear H
                                go_wp2
                                go_meet
                                case rel => exact ⟨_, (false), (by first | rfl | (simp; done) | (simp [*]; done)), H', ⟨by have := HJ2.out; have := HJ17.out; have := HJ23.out; have := HJ34.out; first | omega | exact Nat.le_refl _⟩, ⟨by repeat (first | (with_reducible first | exact HB.out | apply below_alloc | apply pw_below_drewN | apply below_drew1) | exact HB.out)⟩⟩
                          · replace c43 := Bool.eq_false_iff.mpr c43
                            subst c43
                            have H1 : (octavolaw05_NumBack.j4 kj34 a0 false) = some r := by rw [if_neg (show ¬ (false = true) by decide)] at H; exact H
                            clear H
                            have H := H1
                            clear H1
                            have H' := Aside0.mk H
                            clear H
                            go_wp2
                            go_meet
                            case rel => exact ⟨_, (false), (by first | rfl | (simp; done) | (simp [*]; done)), H', ⟨by have := HJ2.out; have := HJ17.out; have := HJ23.out; have := HJ34.out; first | omega | exact Nat.le_refl _⟩, ⟨by repeat (first | (with_reducible first | exact HB.out | apply below_alloc | apply pw_below_drewN | apply below_drew1) | exact HB.out)⟩⟩
                        case rest =>
                          clear HC41
                          try clear c1
                          try clear c2
                          try clear p2
                          try clear c3
                          try clear c4
                          try clear c5
                          try clear c7
                          try clear c8
                          try clear c10
                          try clear c10b0
                          try clear c10b1
                          try clear c10b2
                          try clear c12
                          try clear c13
                          try clear c13b0
                          try clear c13b1
                          try clear c13b2
                          try clear c14
                          try clear c15
                          try clear c17
                          try clear c21
                          try clear c22
                          try clear c26
                          try clear c28
                          try clear c29
                          try clear c29b0
                          try clear c29b1
                          try clear c30
                          try clear c31
                          try clear c32
                          try clear c38
                          try clear c38b0
                          try clear c38b1
                          try clear c39
                          try clear c43
                          try clear c44
                          try clear c44b0
                          try clear c45
                          try clear c45b0
                          try clear c46
                          try clear c46b0
                          try clear c47
                          try clear c47b0
                          try clear c48
                          try clear c48b0
                          try clear c49
                          try clear c49b0
                          try clear c50
                          try clear c50b0
                          try clear p2
                          obtain ⟨kq, x126_40, rfl, HA, HJ40, HB⟩ := hcut
                          cases kq with
                          | zero => exact absurd HA.out (by simp [octavolaw05_NumBack.j4])
                          | succ kj40 =>
                            have H := HA.out
                            clear HA
                            simp only [octavolaw05_NumBack.j4] at H
                            by_cases c51 : x126_40 = true
                            · subst c51
                              have H1 : (some false) = some r := by rw [if_pos rfl] at H; exact H
                              clear H
                              have H := H1
                              clear H1
                              obtain rfl := Option.some.inj H
                              go_wp2
                              go_ret
                              exact ⟨by first | rfl | (simp [errW_none, errW_some] <;> rfl) | (simp [*, errW_none, errW_some] <;> rfl), by repeat (first | (with_reducible first | exact HB.out | apply below_alloc | apply pw_below_drewN | apply below_drew1) | exact HB.out)⟩
                            · replace c51 := Bool.eq_false_iff.mpr c51
                              subst c51
                              have H1 : ((num_Sqrt.f kj40 a0).bind fun bt197 => (if (bt197.2 != (decide (a0 ≥ 0))) = true then (some false) else (if bt197.2 = true then (if (wrap64 (bt197.1 * bt197.1)) > (wrap64 (a0 * 10000)) then (some false) else (if (wrap64 ((wrap64 (bt197.1 + 1)) * (wrap64 (bt197.1 + 1)))) ≤ (wrap64 (a0 * 10000)) then (some false) else ((octavolaw05_lives.f kj40).bind fun t199 => (some t199)))) else ((octavolaw05_lives.f kj40).bind fun t200 => (some t200))))) = some r := by rw [if_neg (show ¬ (false = true) by decide)] at H; exact H
                              clear H
                              have H := H1
                              clear H1
                              replace H := Option.bind_eq_some_iff.mp H
                              obtain ⟨⟨t197, t198⟩, A520, H⟩ := H
                              replace H : (if (t198 != (decide (a0 ≥ 0))) = true then (some false) else (if t198 = true then (if (wrap64 (t197 * t197)) > (wrap64 (a0 * 10000)) then (some false) else (if (wrap64 ((wrap64 (t197 + 1)) * (wrap64 (t197 + 1)))) ≤ (wrap64 (a0 * 10000)) then (some false) else ((octavolaw05_lives.f kj40).bind fun t199 => (some t199)))) else ((octavolaw05_lives.f kj40).bind fun t200 => (some t200)))) = some r := H
                              have A52 := Aside0.mk A520
                              clear A520
                              by_cases c53 : (t198 != (decide (a0 ≥ 0))) = true
                              · rw [if_pos c53] at H
                                have c53b0 : (t198 != (decide (a0 ≥ 0))) = true := c53
                                (try (have c53b1 : decide (t198 = (decide (a0 ≥ 0))) = false := by simpa using c53))
                                (try (have c53b2 : (t198 == (decide (a0 ≥ 0))) = false := by simpa using c53))
                                (try (have c53b3 : ¬ (t198 = (decide (a0 ≥ 0))) := by simpa using c53))
                                clear c53
                                obtain rfl := Option.some.inj H
                                go_wp2_with (first | ((with_reducible refine gate_callee (f := 24) rfl ?_); refine goesL_ (some 129) rfl rfl Tryd.func24 (by kernel_rfl) rfl #[.int .i64 a0] rfl (by (try simp only [List.map_toArray, List.map_cons, List.map_nil]); first | done | rfl | (simp only [List.length_drop, List.length_take]; rfl)) ?_; (with_reducible refine (num_Sqrt.calls kj40 a0 t197 t198 _ A52.out).mono ?_); rintro e w' ⟨rfl, ⟨nd, rfl⟩⟩; refine ⟨_, rfl, ?_⟩))
                                go_ret
                                exact ⟨by first | rfl | (simp [errW_none, errW_some] <;> rfl) | (simp [*, errW_none, errW_some] <;> rfl), by repeat (first | (with_reducible first | exact HB.out | apply below_alloc | apply pw_below_drewN | apply below_drew1) | exact HB.out)⟩
                              · rw [if_neg c53] at H
                                have c53b0 : (t198 != (decide (a0 ≥ 0))) = false := by simpa using c53
                                (try (have c53b1 : decide (t198 = (decide (a0 ≥ 0))) = true := by simpa using c53))
                                (try (have c53b2 : (t198 == (decide (a0 ≥ 0))) = true := by simpa using c53))
                                clear c53
                                by_cases c54 : t198 = true
                                · subst c54
                                  have H1 : (if (wrap64 (t197 * t197)) > (wrap64 (a0 * 10000)) then (some false) else (if (wrap64 ((wrap64 (t197 + 1)) * (wrap64 (t197 + 1)))) ≤ (wrap64 (a0 * 10000)) then (some false) else ((octavolaw05_lives.f kj40).bind fun t199 => (some t199)))) = some r := by rw [if_pos rfl] at H; exact H
                                  clear H
                                  have H := H1
                                  clear H1
                                  by_cases c55 : (wrap64 (t197 * t197)) > (wrap64 (a0 * 10000))
                                  · rw [if_pos c55] at H
                                    have c55b0 : decide ((wrap64 (a0 * 10000)) < (wrap64 (t197 * t197))) = true := decide_eq_true c55
                                    clear c55
                                    obtain rfl := Option.some.inj H
                                    go_wp2_with (first | ((with_reducible refine gate_callee (f := 24) rfl ?_); refine goesL_ (some 129) rfl rfl Tryd.func24 (by kernel_rfl) rfl #[.int .i64 a0] rfl (by (try simp only [List.map_toArray, List.map_cons, List.map_nil]); first | done | rfl | (simp only [List.length_drop, List.length_take]; rfl)) ?_; (with_reducible refine (num_Sqrt.calls kj40 a0 t197 true _ A52.out).mono ?_); rintro e w' ⟨rfl, ⟨nd, rfl⟩⟩; refine ⟨_, rfl, ?_⟩))
                                    go_ret
                                    exact ⟨by first | rfl | (simp [errW_none, errW_some] <;> rfl) | (simp [*, errW_none, errW_some] <;> rfl), by repeat (first | (with_reducible first | exact HB.out | apply below_alloc | apply pw_below_drewN | apply below_drew1) | exact HB.out)⟩
                                  · rw [if_neg c55] at H
                                    have c55b0 : decide ((wrap64 (a0 * 10000)) < (wrap64 (t197 * t197))) = false := decide_eq_false c55
                                    clear c55
                                    by_cases c56 : (wrap64 ((wrap64 (t197 + 1)) * (wrap64 (t197 + 1)))) ≤ (wrap64 (a0 * 10000))
                                    · rw [if_pos c56] at H
                                      have c56b0 : decide ((wrap64 ((wrap64 (t197 + 1)) * (wrap64 (t197 + 1)))) ≤ (wrap64 (a0 * 10000))) = true := decide_eq_true c56
                                      clear c56
                                      obtain rfl := Option.some.inj H
                                      go_wp2_with (first | ((with_reducible refine gate_callee (f := 24) rfl ?_); refine goesL_ (some 129) rfl rfl Tryd.func24 (by kernel_rfl) rfl #[.int .i64 a0] rfl (by (try simp only [List.map_toArray, List.map_cons, List.map_nil]); first | done | rfl | (simp only [List.length_drop, List.length_take]; rfl)) ?_; (with_reducible refine (num_Sqrt.calls kj40 a0 t197 true _ A52.out).mono ?_); rintro e w' ⟨rfl, ⟨nd, rfl⟩⟩; refine ⟨_, rfl, ?_⟩))
                                      go_ret
                                      exact ⟨by first | rfl | (simp [errW_none, errW_some] <;> rfl) | (simp [*, errW_none, errW_some] <;> rfl), by repeat (first | (with_reducible first | exact HB.out | apply below_alloc | apply pw_below_drewN | apply below_drew1) | exact HB.out)⟩
                                    · rw [if_neg c56] at H
                                      have c56b0 : decide ((wrap64 ((wrap64 (t197 + 1)) * (wrap64 (t197 + 1)))) ≤ (wrap64 (a0 * 10000))) = false := decide_eq_false c56
                                      clear c56
                                      replace H := Option.bind_eq_some_iff.mp H
                                      obtain ⟨t199, A570, H⟩ := H
                                      replace H : (some t199) = some r := H
                                      have A57 := Aside0.mk A570
                                      clear A570
                                      obtain rfl := Option.some.inj H
                                      go_wp2_with (first | ((with_reducible refine gate_callee (f := 24) rfl ?_); refine goesL_ (some 129) rfl rfl Tryd.func24 (by kernel_rfl) rfl #[.int .i64 a0] rfl (by (try simp only [List.map_toArray, List.map_cons, List.map_nil]); first | done | rfl | (simp only [List.length_drop, List.length_take]; rfl)) ?_; (with_reducible refine (num_Sqrt.calls kj40 a0 t197 true _ A52.out).mono ?_); rintro e w' ⟨rfl, ⟨nd, rfl⟩⟩; refine ⟨_, rfl, ?_⟩) | ((with_reducible refine gate_callee (f := 16) rfl ?_); refine goesL_ (some 157) rfl rfl Tryd.func16 (by kernel_rfl) rfl #[] rfl (by (try simp only [List.map_toArray, List.map_cons, List.map_nil]); first | done | rfl | (simp only [List.length_drop, List.length_take]; rfl)) ?_; (with_reducible refine (octavolaw05_lives.calls kj40  t199 _ A57.out).mono ?_); rintro e w58 ⟨rfl, hb⟩; refine ⟨_, rfl, ?_⟩; have n0_ := Aside0.mk (below_step (by repeat (first | (with_reducible first | exact HB.out | apply below_alloc | apply pw_below_drewN | apply below_drew1) | exact HB.out)) hb); clear HB; have HB := n0_; clear n0_; (try clear hb); (try clear hb2); (try clear hk); (try clear hi)))
                                      go_ret
                                      exact ⟨by first | rfl | (simp [errW_none, errW_some] <;> rfl) | (simp [*, errW_none, errW_some] <;> rfl), by repeat (first | (with_reducible first | exact HB.out | apply below_alloc | apply pw_below_drewN | apply below_drew1) | exact HB.out)⟩
                                · replace c54 := Bool.eq_false_iff.mpr c54
                                  subst c54
                                  have H1 : ((octavolaw05_lives.f kj40).bind fun t200 => (some t200)) = some r := by rw [if_neg (show ¬ (false = true) by decide)] at H; exact H
                                  clear H
                                  have H := H1
                                  clear H1
                                  replace H := Option.bind_eq_some_iff.mp H
                                  obtain ⟨t200, A590, H⟩ := H
                                  replace H : (some t200) = some r := H
                                  have A59 := Aside0.mk A590
                                  clear A590
                                  obtain rfl := Option.some.inj H
                                  go_wp2_with (first | ((with_reducible refine gate_callee (f := 24) rfl ?_); refine goesL_ (some 129) rfl rfl Tryd.func24 (by kernel_rfl) rfl #[.int .i64 a0] rfl (by (try simp only [List.map_toArray, List.map_cons, List.map_nil]); first | done | rfl | (simp only [List.length_drop, List.length_take]; rfl)) ?_; (with_reducible refine (num_Sqrt.calls kj40 a0 t197 false _ A52.out).mono ?_); rintro e w' ⟨rfl, ⟨nd, rfl⟩⟩; refine ⟨_, rfl, ?_⟩) | ((with_reducible refine gate_callee (f := 16) rfl ?_); refine goesL_ (some 157) rfl rfl Tryd.func16 (by kernel_rfl) rfl #[] rfl (by (try simp only [List.map_toArray, List.map_cons, List.map_nil]); first | done | rfl | (simp only [List.length_drop, List.length_take]; rfl)) ?_; (with_reducible refine (octavolaw05_lives.calls kj40  t200 _ A59.out).mono ?_); rintro e w60 ⟨rfl, hb⟩; refine ⟨_, rfl, ?_⟩; have n0_ := Aside0.mk (below_step (by repeat (first | (with_reducible first | exact HB.out | apply below_alloc | apply pw_below_drewN | apply below_drew1) | exact HB.out)) hb); clear HB; have HB := n0_; clear n0_; (try clear hb); (try clear hb2); (try clear hk); (try clear hi)))
                                  go_ret
                                  exact ⟨by first | rfl | (simp [errW_none, errW_some] <;> rfl) | (simp [*, errW_none, errW_some] <;> rfl), by repeat (first | (with_reducible first | exact HB.out | apply below_alloc | apply pw_below_drewN | apply below_drew1) | exact HB.out)⟩

/-- THE ONE PURE STATEMENT of octavolaw05_NumBack: yours. -/
def octavolaw05_NumBack.Pure : Prop := ∀ (a0 : Int) (a1 : Int), (Lit.int .i64 a0).wf = true → (Lit.int .i64 a1).wf = true → ∃ k, octavolaw05_NumBack.f k a0 a1 = some true
theorem octavolaw05_NumBack.walk (P : octavolaw05_NumBack.Pure) (a0 : Int) (a1 : Int) (w : World) (w0 : (Lit.int .i64 a0).wf = true) (w1 : (Lit.int .i64 a1).wf = true) :
    Calls Tryd.prog 8 #[.int .i64 a0, .int .i64 a1] w fun e w' => e = .returned (.bool true) ∧ Below w.heap.size w w' := by
  obtain ⟨k, h⟩ := P a0 a1 w0 w1
  refine (octavolaw05_NumBack.calls k a0 a1 true w h).mono ?_
  rintro e w' ⟨rfl, hd⟩
  exact ⟨rfl, hd⟩

end Go.Proofs.YtficjmgofbdohaaDoor.P
