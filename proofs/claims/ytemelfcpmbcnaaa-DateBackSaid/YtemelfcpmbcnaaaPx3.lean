-- Written by a program of this session (wip/tools/xprint.py), out of the seat's translation. Not trusted: Lean checks it.
import Derived.Test.YtemelfcpmbcnaaaPx0
import Derived.Test.YtemelfcpmbcnaaaPx1
import Derived.Test.YtemelfcpmbcnaaaPx2
namespace Go.Proofs.Ytemelfcpmbcnaaa.P
open Go.RowKit Go.Proofs.YtemelfcpmbcnaaaW.PrintWords Go.Proofs.YtemelfcpmbcnaaaW.PrintLast Go.Proofs.YtemelfcpmbcnaaaW.PrintMore
attribute [local go_sem] max2_int min2_int max_two min_two max_three min_three max_four min_four   -- for this text's walks alone
set_option linter.unusedVariables false
set_option linter.unusedSimpArgs false

/-! ### octavolaw07_DateBack: function 3 -/
mutual
def octavolaw07_DateBack.j0 : Nat → Int → Int → Int → Int → Bool → Option (Bool)
  | 0, _, _, _, _, _ => none
  | k + 1, x3, x4, x5, x6, x69 => if x69 = true then (some false) else ((date_Parts.f k (wrap64 (x3 + 1))).bind fun bt141 => (if bt141.2.2.2 = true then ((date_Last.f k x4 x5).bind fun t145 => (if x6 < t145 then (if bt141.1 = x4 then (if bt141.2.1 = x5 then (octavolaw07_DateBack.j1 k x3 (bt141.2.2.1 != (wrap64 (x6 + 1)))) else (octavolaw07_DateBack.j1 k x3 true)) else (octavolaw07_DateBack.j1 k x3 true)) else (if x5 < 12 then (if bt141.1 = x4 then (if bt141.2.1 = (wrap64 (x5 + 1)) then (octavolaw07_DateBack.j2 k x3 (bt141.2.2.1 != 1)) else (octavolaw07_DateBack.j2 k x3 true)) else (octavolaw07_DateBack.j2 k x3 true)) else (if bt141.1 = (wrap64 (x4 + 1)) then (if bt141.2.1 = 1 then (octavolaw07_DateBack.j3 k x3 (bt141.2.2.1 != 1)) else (octavolaw07_DateBack.j3 k x3 true)) else (octavolaw07_DateBack.j3 k x3 true))))) else (some false)))
def octavolaw07_DateBack.j1 : Nat → Int → Bool → Option (Bool)
  | 0, _, _ => none
  | k + 1, x3, x111 => if x111 = true then (some false) else ((date_Weekday.f (wrap64 (x3 + 1))).bind fun t146 => ((date_Weekday.f x3).bind fun t147 => (if t146 = (wrap64 ((Int.tmod t147 7) + 1)) then ((octavolaw07_lives.f k).bind fun t148 => (some t148)) else (some false))))
def octavolaw07_DateBack.j2 : Nat → Int → Bool → Option (Bool)
  | 0, _, _ => none
  | k + 1, x3, x127 => if x127 = true then (some false) else ((date_Weekday.f (wrap64 (x3 + 1))).bind fun t149 => ((date_Weekday.f x3).bind fun t150 => (if t149 = (wrap64 ((Int.tmod t150 7) + 1)) then ((octavolaw07_lives.f k).bind fun t151 => (some t151)) else (some false))))
def octavolaw07_DateBack.j3 : Nat → Int → Bool → Option (Bool)
  | 0, _, _ => none
  | k + 1, x3, x91 => if x91 = true then (some false) else ((date_Weekday.f (wrap64 (x3 + 1))).bind fun t152 => ((date_Weekday.f x3).bind fun t153 => (if t152 = (wrap64 ((Int.tmod t153 7) + 1)) then ((octavolaw07_lives.f k).bind fun t154 => (some t154)) else (some false))))
end
def octavolaw07_DateBack.f (k : Nat) (a0 : Int) : Option (Bool) := (date_Parts.f k (wrap64 (1 + (wrap64 (Int.tmod a0 2958463))))).bind fun bt131 => ((date_Day.f k bt131.1 bt131.2.1 bt131.2.2.1).bind fun bt135 => ((date_Print.f k (wrap64 (1 + (wrap64 (Int.tmod a0 2958463))))).bind fun t137 => ((date_Parse.f k t137).bind fun bt138 => (if bt131.2.2.2 = true then (if bt135.2 = true then (if bt138.2 = true then (if bt135.1 = (wrap64 (1 + (wrap64 (Int.tmod a0 2958463)))) then (if bt138.1 = (wrap64 (1 + (wrap64 (Int.tmod a0 2958463)))) then (if bt131.2.2.1 < 1 then (octavolaw07_DateBack.j0 k (wrap64 (1 + (wrap64 (Int.tmod a0 2958463)))) bt131.1 bt131.2.1 bt131.2.2.1 true) else ((date_Last.f k bt131.1 bt131.2.1).bind fun t140 => (octavolaw07_DateBack.j0 k (wrap64 (1 + (wrap64 (Int.tmod a0 2958463)))) bt131.1 bt131.2.1 bt131.2.2.1 (decide (bt131.2.2.1 > t140))))) else (octavolaw07_DateBack.j0 k (wrap64 (1 + (wrap64 (Int.tmod a0 2958463)))) bt131.1 bt131.2.1 bt131.2.2.1 true)) else (octavolaw07_DateBack.j0 k (wrap64 (1 + (wrap64 (Int.tmod a0 2958463)))) bt131.1 bt131.2.1 bt131.2.2.1 true)) else (octavolaw07_DateBack.j0 k (wrap64 (1 + (wrap64 (Int.tmod a0 2958463)))) bt131.1 bt131.2.1 bt131.2.2.1 true)) else (octavolaw07_DateBack.j0 k (wrap64 (1 + (wrap64 (Int.tmod a0 2958463)))) bt131.1 bt131.2.1 bt131.2.2.1 true)) else (octavolaw07_DateBack.j0 k (wrap64 (1 + (wrap64 (Int.tmod a0 2958463)))) bt131.1 bt131.2.1 bt131.2.2.1 true)))))
theorem octavolaw07_DateBack.mono_l : ∀ k, (∀ y0 y1 y2 y3 y4, LeO (octavolaw07_DateBack.j0 k y0 y1 y2 y3 y4) (octavolaw07_DateBack.j0 (k + 1) y0 y1 y2 y3 y4)) ∧ (∀ y0 y1, LeO (octavolaw07_DateBack.j1 k y0 y1) (octavolaw07_DateBack.j1 (k + 1) y0 y1)) ∧ (∀ y0 y1, LeO (octavolaw07_DateBack.j2 k y0 y1) (octavolaw07_DateBack.j2 (k + 1) y0 y1)) ∧ (∀ y0 y1, LeO (octavolaw07_DateBack.j3 k y0 y1) (octavolaw07_DateBack.j3 (k + 1) y0 y1))
  | 0 => ⟨fun _ _ _ _ _ r h => by simp [octavolaw07_DateBack.j0] at h, fun _ _ r h => by simp [octavolaw07_DateBack.j1] at h, fun _ _ r h => by simp [octavolaw07_DateBack.j2] at h, fun _ _ r h => by simp [octavolaw07_DateBack.j3] at h⟩
  | k + 1 => by
    obtain ⟨ih0, ih1, ih2, ih3⟩ := octavolaw07_DateBack.mono_l k
    refine ⟨?_, ?_, ?_, ?_⟩
    · intro y0 y1 y2 y3 y4
      unfold octavolaw07_DateBack.j0
      repeat' first
      | (with_reducible exact ih0 _ _ _ _ _)
      | (with_reducible exact ih1 _ _)
      | (with_reducible exact ih2 _ _)
      | (with_reducible exact ih3 _ _)
      | (with_reducible exact date_Day.mono _ _ _ _)
      | (with_reducible exact date_Last.mono _ _ _)
      | (with_reducible exact date_Parse.mono _ _)
      | (with_reducible exact date_Parts.mono _ _)
      | (with_reducible exact date_Print.mono _ _)
      | (with_reducible exact octavolaw07_lives.mono _)
      | (with_reducible exact LeO.refl _)
      | (with_reducible exact LeO.none _)
      | (with_reducible refine LeO.ite ?_ ?_)
      | (with_reducible refine LeO.bind ?_ (fun _ => ?_))
      | exact ih0 _ _ _ _ _
      | exact ih1 _ _
      | exact ih2 _ _
      | exact ih3 _ _
      | exact date_Day.mono _ _ _ _
      | exact date_Last.mono _ _ _
      | exact date_Parse.mono _ _
      | exact date_Parts.mono _ _
      | exact date_Print.mono _ _
      | exact octavolaw07_lives.mono _
      | exact LeO.none _
      | refine LeO.ite ?_ ?_
      | refine LeO.bind ?_ (fun _ => ?_)
    · intro y0 y1
      unfold octavolaw07_DateBack.j1
      repeat' first
      | (with_reducible exact ih0 _ _ _ _ _)
      | (with_reducible exact ih1 _ _)
      | (with_reducible exact ih2 _ _)
      | (with_reducible exact ih3 _ _)
      | (with_reducible exact date_Day.mono _ _ _ _)
      | (with_reducible exact date_Last.mono _ _ _)
      | (with_reducible exact date_Parse.mono _ _)
      | (with_reducible exact date_Parts.mono _ _)
      | (with_reducible exact date_Print.mono _ _)
      | (with_reducible exact octavolaw07_lives.mono _)
      | (with_reducible exact LeO.refl _)
      | (with_reducible exact LeO.none _)
      | (with_reducible refine LeO.ite ?_ ?_)
      | (with_reducible refine LeO.bind ?_ (fun _ => ?_))
      | exact ih0 _ _ _ _ _
      | exact ih1 _ _
      | exact ih2 _ _
      | exact ih3 _ _
      | exact date_Day.mono _ _ _ _
      | exact date_Last.mono _ _ _
      | exact date_Parse.mono _ _
      | exact date_Parts.mono _ _
      | exact date_Print.mono _ _
      | exact octavolaw07_lives.mono _
      | exact LeO.none _
      | refine LeO.ite ?_ ?_
      | refine LeO.bind ?_ (fun _ => ?_)
    · intro y0 y1
      unfold octavolaw07_DateBack.j2
      repeat' first
      | (with_reducible exact ih0 _ _ _ _ _)
      | (with_reducible exact ih1 _ _)
      | (with_reducible exact ih2 _ _)
      | (with_reducible exact ih3 _ _)
      | (with_reducible exact date_Day.mono _ _ _ _)
      | (with_reducible exact date_Last.mono _ _ _)
      | (with_reducible exact date_Parse.mono _ _)
      | (with_reducible exact date_Parts.mono _ _)
      | (with_reducible exact date_Print.mono _ _)
      | (with_reducible exact octavolaw07_lives.mono _)
      | (with_reducible exact LeO.refl _)
      | (with_reducible exact LeO.none _)
      | (with_reducible refine LeO.ite ?_ ?_)
      | (with_reducible refine LeO.bind ?_ (fun _ => ?_))
      | exact ih0 _ _ _ _ _
      | exact ih1 _ _
      | exact ih2 _ _
      | exact ih3 _ _
      | exact date_Day.mono _ _ _ _
      | exact date_Last.mono _ _ _
      | exact date_Parse.mono _ _
      | exact date_Parts.mono _ _
      | exact date_Print.mono _ _
      | exact octavolaw07_lives.mono _
      | exact LeO.none _
      | refine LeO.ite ?_ ?_
      | refine LeO.bind ?_ (fun _ => ?_)
    · intro y0 y1
      unfold octavolaw07_DateBack.j3
      repeat' first
      | (with_reducible exact ih0 _ _ _ _ _)
      | (with_reducible exact ih1 _ _)
      | (with_reducible exact ih2 _ _)
      | (with_reducible exact ih3 _ _)
      | (with_reducible exact date_Day.mono _ _ _ _)
      | (with_reducible exact date_Last.mono _ _ _)
      | (with_reducible exact date_Parse.mono _ _)
      | (with_reducible exact date_Parts.mono _ _)
      | (with_reducible exact date_Print.mono _ _)
      | (with_reducible exact octavolaw07_lives.mono _)
      | (with_reducible exact LeO.refl _)
      | (with_reducible exact LeO.none _)
      | (with_reducible refine LeO.ite ?_ ?_)
      | (with_reducible refine LeO.bind ?_ (fun _ => ?_))
      | exact ih0 _ _ _ _ _
      | exact ih1 _ _
      | exact ih2 _ _
      | exact ih3 _ _
      | exact date_Day.mono _ _ _ _
      | exact date_Last.mono _ _ _
      | exact date_Parse.mono _ _
      | exact date_Parts.mono _ _
      | exact date_Print.mono _ _
      | exact octavolaw07_lives.mono _
      | exact LeO.none _
      | refine LeO.ite ?_ ?_
      | refine LeO.bind ?_ (fun _ => ?_)
theorem octavolaw07_DateBack.mono : ∀ a0 k, LeO (octavolaw07_DateBack.f k a0) (octavolaw07_DateBack.f (k + 1) a0) := by
  intro a0 k
  obtain ⟨ih0, ih1, ih2, ih3⟩ := octavolaw07_DateBack.mono_l k
  unfold octavolaw07_DateBack.f
  repeat' first
      | (with_reducible exact ih0 _ _ _ _ _)
      | (with_reducible exact ih1 _ _)
      | (with_reducible exact ih2 _ _)
      | (with_reducible exact ih3 _ _)
      | (with_reducible exact date_Day.mono _ _ _ _)
      | (with_reducible exact date_Last.mono _ _ _)
      | (with_reducible exact date_Parse.mono _ _)
      | (with_reducible exact date_Parts.mono _ _)
      | (with_reducible exact date_Print.mono _ _)
      | (with_reducible exact octavolaw07_lives.mono _)
      | (with_reducible exact LeO.refl _)
      | (with_reducible exact LeO.none _)
      | (with_reducible refine LeO.ite ?_ ?_)
      | (with_reducible refine LeO.bind ?_ (fun _ => ?_))
      | exact ih0 _ _ _ _ _
      | exact ih1 _ _
      | exact ih2 _ _
      | exact ih3 _ _
      | exact date_Day.mono _ _ _ _
      | exact date_Last.mono _ _ _
      | exact date_Parse.mono _ _
      | exact date_Parts.mono _ _
      | exact date_Print.mono _ _
      | exact octavolaw07_lives.mono _
      | exact LeO.none _
      | refine LeO.ite ?_ ?_
      | refine LeO.bind ?_ (fun _ => ?_)
set_option maxHeartbeats 8000000 in
set_option maxRecDepth 100000 in
theorem octavolaw07_DateBack.calls (k : Nat) (a0 : Int) (r : Bool) (w : World) (h : octavolaw07_DateBack.f k a0 = some r) :
    Calls Try.prog 3 #[.int .u64 a0] w fun e w' => e = .returned (.bool r) ∧ Below w.heap.size w w' := by
  have HB := Aside0.mk (Below.refl w.heap.size w)
  have H : ((date_Parts.f k (wrap64 (1 + (wrap64 (Int.tmod a0 2958463))))).bind fun bt131 => ((date_Day.f k bt131.1 bt131.2.1 bt131.2.2.1).bind fun bt135 => ((date_Print.f k (wrap64 (1 + (wrap64 (Int.tmod a0 2958463))))).bind fun t137 => ((date_Parse.f k t137).bind fun bt138 => (if bt131.2.2.2 = true then (if bt135.2 = true then (if bt138.2 = true then (if bt135.1 = (wrap64 (1 + (wrap64 (Int.tmod a0 2958463)))) then (if bt138.1 = (wrap64 (1 + (wrap64 (Int.tmod a0 2958463)))) then (if bt131.2.2.1 < 1 then (octavolaw07_DateBack.j0 k (wrap64 (1 + (wrap64 (Int.tmod a0 2958463)))) bt131.1 bt131.2.1 bt131.2.2.1 true) else ((date_Last.f k bt131.1 bt131.2.1).bind fun t140 => (octavolaw07_DateBack.j0 k (wrap64 (1 + (wrap64 (Int.tmod a0 2958463)))) bt131.1 bt131.2.1 bt131.2.2.1 (decide (bt131.2.2.1 > t140))))) else (octavolaw07_DateBack.j0 k (wrap64 (1 + (wrap64 (Int.tmod a0 2958463)))) bt131.1 bt131.2.1 bt131.2.2.1 true)) else (octavolaw07_DateBack.j0 k (wrap64 (1 + (wrap64 (Int.tmod a0 2958463)))) bt131.1 bt131.2.1 bt131.2.2.1 true)) else (octavolaw07_DateBack.j0 k (wrap64 (1 + (wrap64 (Int.tmod a0 2958463)))) bt131.1 bt131.2.1 bt131.2.2.1 true)) else (octavolaw07_DateBack.j0 k (wrap64 (1 + (wrap64 (Int.tmod a0 2958463)))) bt131.1 bt131.2.1 bt131.2.2.1 true)) else (octavolaw07_DateBack.j0 k (wrap64 (1 + (wrap64 (Int.tmod a0 2958463)))) bt131.1 bt131.2.1 bt131.2.2.1 true)))))) = some r := h
  clear h
  replace H := Option.bind_eq_some_iff.mp H
  obtain ⟨⟨t131, t132, t133, t134⟩, A20, H⟩ := H
  replace H : ((date_Day.f k t131 t132 t133).bind fun bt135 => ((date_Print.f k (wrap64 (1 + (wrap64 (Int.tmod a0 2958463))))).bind fun t137 => ((date_Parse.f k t137).bind fun bt138 => (if t134 = true then (if bt135.2 = true then (if bt138.2 = true then (if bt135.1 = (wrap64 (1 + (wrap64 (Int.tmod a0 2958463)))) then (if bt138.1 = (wrap64 (1 + (wrap64 (Int.tmod a0 2958463)))) then (if t133 < 1 then (octavolaw07_DateBack.j0 k (wrap64 (1 + (wrap64 (Int.tmod a0 2958463)))) t131 t132 t133 true) else ((date_Last.f k t131 t132).bind fun t140 => (octavolaw07_DateBack.j0 k (wrap64 (1 + (wrap64 (Int.tmod a0 2958463)))) t131 t132 t133 (decide (t133 > t140))))) else (octavolaw07_DateBack.j0 k (wrap64 (1 + (wrap64 (Int.tmod a0 2958463)))) t131 t132 t133 true)) else (octavolaw07_DateBack.j0 k (wrap64 (1 + (wrap64 (Int.tmod a0 2958463)))) t131 t132 t133 true)) else (octavolaw07_DateBack.j0 k (wrap64 (1 + (wrap64 (Int.tmod a0 2958463)))) t131 t132 t133 true)) else (octavolaw07_DateBack.j0 k (wrap64 (1 + (wrap64 (Int.tmod a0 2958463)))) t131 t132 t133 true)) else (octavolaw07_DateBack.j0 k (wrap64 (1 + (wrap64 (Int.tmod a0 2958463)))) t131 t132 t133 true))))) = some r := H
  have A2 := Aside0.mk A20
  clear A20
  replace H := Option.bind_eq_some_iff.mp H
  obtain ⟨⟨t135, t136⟩, A30, H⟩ := H
  replace H : ((date_Print.f k (wrap64 (1 + (wrap64 (Int.tmod a0 2958463))))).bind fun t137 => ((date_Parse.f k t137).bind fun bt138 => (if t134 = true then (if t136 = true then (if bt138.2 = true then (if t135 = (wrap64 (1 + (wrap64 (Int.tmod a0 2958463)))) then (if bt138.1 = (wrap64 (1 + (wrap64 (Int.tmod a0 2958463)))) then (if t133 < 1 then (octavolaw07_DateBack.j0 k (wrap64 (1 + (wrap64 (Int.tmod a0 2958463)))) t131 t132 t133 true) else ((date_Last.f k t131 t132).bind fun t140 => (octavolaw07_DateBack.j0 k (wrap64 (1 + (wrap64 (Int.tmod a0 2958463)))) t131 t132 t133 (decide (t133 > t140))))) else (octavolaw07_DateBack.j0 k (wrap64 (1 + (wrap64 (Int.tmod a0 2958463)))) t131 t132 t133 true)) else (octavolaw07_DateBack.j0 k (wrap64 (1 + (wrap64 (Int.tmod a0 2958463)))) t131 t132 t133 true)) else (octavolaw07_DateBack.j0 k (wrap64 (1 + (wrap64 (Int.tmod a0 2958463)))) t131 t132 t133 true)) else (octavolaw07_DateBack.j0 k (wrap64 (1 + (wrap64 (Int.tmod a0 2958463)))) t131 t132 t133 true)) else (octavolaw07_DateBack.j0 k (wrap64 (1 + (wrap64 (Int.tmod a0 2958463)))) t131 t132 t133 true)))) = some r := H
  have A3 := Aside0.mk A30
  clear A30
  replace H := Option.bind_eq_some_iff.mp H
  obtain ⟨t137, A40, H⟩ := H
  replace H : ((date_Parse.f k t137).bind fun bt138 => (if t134 = true then (if t136 = true then (if bt138.2 = true then (if t135 = (wrap64 (1 + (wrap64 (Int.tmod a0 2958463)))) then (if bt138.1 = (wrap64 (1 + (wrap64 (Int.tmod a0 2958463)))) then (if t133 < 1 then (octavolaw07_DateBack.j0 k (wrap64 (1 + (wrap64 (Int.tmod a0 2958463)))) t131 t132 t133 true) else ((date_Last.f k t131 t132).bind fun t140 => (octavolaw07_DateBack.j0 k (wrap64 (1 + (wrap64 (Int.tmod a0 2958463)))) t131 t132 t133 (decide (t133 > t140))))) else (octavolaw07_DateBack.j0 k (wrap64 (1 + (wrap64 (Int.tmod a0 2958463)))) t131 t132 t133 true)) else (octavolaw07_DateBack.j0 k (wrap64 (1 + (wrap64 (Int.tmod a0 2958463)))) t131 t132 t133 true)) else (octavolaw07_DateBack.j0 k (wrap64 (1 + (wrap64 (Int.tmod a0 2958463)))) t131 t132 t133 true)) else (octavolaw07_DateBack.j0 k (wrap64 (1 + (wrap64 (Int.tmod a0 2958463)))) t131 t132 t133 true)) else (octavolaw07_DateBack.j0 k (wrap64 (1 + (wrap64 (Int.tmod a0 2958463)))) t131 t132 t133 true))) = some r := H
  have A4 := Aside0.mk A40
  clear A40
  replace H := Option.bind_eq_some_iff.mp H
  obtain ⟨⟨t138, t139⟩, A50, H⟩ := H
  replace H : (if t134 = true then (if t136 = true then (if t139 = true then (if t135 = (wrap64 (1 + (wrap64 (Int.tmod a0 2958463)))) then (if t138 = (wrap64 (1 + (wrap64 (Int.tmod a0 2958463)))) then (if t133 < 1 then (octavolaw07_DateBack.j0 k (wrap64 (1 + (wrap64 (Int.tmod a0 2958463)))) t131 t132 t133 true) else ((date_Last.f k t131 t132).bind fun t140 => (octavolaw07_DateBack.j0 k (wrap64 (1 + (wrap64 (Int.tmod a0 2958463)))) t131 t132 t133 (decide (t133 > t140))))) else (octavolaw07_DateBack.j0 k (wrap64 (1 + (wrap64 (Int.tmod a0 2958463)))) t131 t132 t133 true)) else (octavolaw07_DateBack.j0 k (wrap64 (1 + (wrap64 (Int.tmod a0 2958463)))) t131 t132 t133 true)) else (octavolaw07_DateBack.j0 k (wrap64 (1 + (wrap64 (Int.tmod a0 2958463)))) t131 t132 t133 true)) else (octavolaw07_DateBack.j0 k (wrap64 (1 + (wrap64 (Int.tmod a0 2958463)))) t131 t132 t133 true)) else (octavolaw07_DateBack.j0 k (wrap64 (1 + (wrap64 (Int.tmod a0 2958463)))) t131 t132 t133 true)) = some r := H
  have A5 := Aside0.mk A50
  clear A50
  have HC6 := Aside0.mk H
  clear H
  go_enter Try.func3, Try.ntmps3
  go_upto_region 5 with (first | ((with_reducible refine gate_callee (f := 8) rfl ?_); refine goesL_ (some 21) rfl rfl Try.func8 (by kernel_rfl) rfl #[.int .i64 (wrap64 (1 + (wrap64 (Int.tmod a0 2958463))))] rfl (by (try simp only [List.map_toArray, List.map_cons, List.map_nil]); first | done | rfl | (simp only [List.length_drop, List.length_take]; rfl)) ?_; (with_reducible refine (date_Parts.calls k (wrap64 (1 + (wrap64 (Int.tmod a0 2958463)))) t131 t132 t133 t134 _ A2.out).mono ?_); rintro e w' ⟨rfl, ⟨nd, rfl⟩⟩; refine ⟨_, rfl, ?_⟩) | ((with_reducible refine gate_callee (f := 9) rfl ?_); refine goesL_ (some 30) rfl rfl Try.func9 (by kernel_rfl) rfl #[.int .i64 t131, .int .i64 t132, .int .i64 t133] rfl (by (try simp only [List.map_toArray, List.map_cons, List.map_nil]); first | done | rfl | (simp only [List.length_drop, List.length_take]; rfl)) ?_; (with_reducible refine (date_Day.calls k t131 t132 t133 t135 t136 _ A3.out).mono ?_); rintro e w' ⟨rfl, ⟨nd, rfl⟩⟩; refine ⟨_, rfl, ?_⟩) | ((with_reducible refine gate_callee (f := 11) rfl ?_); refine goesL_ (some 35) rfl rfl Try.func11 (by kernel_rfl) rfl #[.int .i64 (wrap64 (1 + (wrap64 (Int.tmod a0 2958463))))] rfl (by (try simp only [List.map_toArray, List.map_cons, List.map_nil]); first | done | rfl | (simp only [List.length_drop, List.length_take]; rfl)) ?_; (with_reducible refine (date_Print.calls k (wrap64 (1 + (wrap64 (Int.tmod a0 2958463)))) t137 _ A4.out).mono ?_); rintro e w7 ⟨rfl, hb⟩; refine ⟨_, rfl, ?_⟩; have n0_ := Aside0.mk (below_step (by repeat (first | (with_reducible first | exact HB.out | apply below_alloc | apply pw_below_drewN | apply below_drew1) | exact HB.out)) hb); clear HB; have HB := n0_; clear n0_; (try clear hb); (try clear hb2); (try clear hk); (try clear hi)) | ((with_reducible refine gate_callee (f := 10) rfl ?_); refine goesL_ (some 36) rfl rfl Try.func10 (by kernel_rfl) rfl #[.string t137] rfl (by (try simp only [List.map_toArray, List.map_cons, List.map_nil]); first | done | rfl | (simp only [List.length_drop, List.length_take]; rfl)) ?_; (with_reducible refine (date_Parse.calls k t137 t138 t139 _ A5.out).mono ?_); rintro e w8 ⟨rfl, hb⟩; refine ⟨_, rfl, ?_⟩; have n0_ := Aside0.mk (below_step (by repeat (first | (with_reducible first | exact HB.out | apply below_alloc | apply pw_below_drewN | apply below_drew1) | exact HB.out)) hb); clear HB; have HB := n0_; clear n0_; (try clear hb); (try clear hb2); (try clear hk); (try clear hi)))
  (try simp only [Act.put, List.setIfInBounds_toArray, List.set_cons_zero, List.set_cons_succ])
  go_cut [69] (fun v69 wc => ∃ (kq : Nat) (x69_5 : Bool), v69 = .bool x69_5 ∧ Aside0 (octavolaw07_DateBack.j0 kq (wrap64 (1 + (wrap64 (Int.tmod a0 2958463)))) t131 t132 t133 x69_5 = some r) ∧ Aside0 (kq ≤ k) ∧ Aside0 (Below w.heap.size w wc))
  case first =>
    have H := HC6.out
    clear HC6
    by_cases c9 : t134 = true
    · subst c9
      have H1 : (if t136 = true then (if t139 = true then (if t135 = (wrap64 (1 + (wrap64 (Int.tmod a0 2958463)))) then (if t138 = (wrap64 (1 + (wrap64 (Int.tmod a0 2958463)))) then (if t133 < 1 then (octavolaw07_DateBack.j0 k (wrap64 (1 + (wrap64 (Int.tmod a0 2958463)))) t131 t132 t133 true) else ((date_Last.f k t131 t132).bind fun t140 => (octavolaw07_DateBack.j0 k (wrap64 (1 + (wrap64 (Int.tmod a0 2958463)))) t131 t132 t133 (decide (t133 > t140))))) else (octavolaw07_DateBack.j0 k (wrap64 (1 + (wrap64 (Int.tmod a0 2958463)))) t131 t132 t133 true)) else (octavolaw07_DateBack.j0 k (wrap64 (1 + (wrap64 (Int.tmod a0 2958463)))) t131 t132 t133 true)) else (octavolaw07_DateBack.j0 k (wrap64 (1 + (wrap64 (Int.tmod a0 2958463)))) t131 t132 t133 true)) else (octavolaw07_DateBack.j0 k (wrap64 (1 + (wrap64 (Int.tmod a0 2958463)))) t131 t132 t133 true)) = some r := by rw [if_pos rfl] at H; exact H
      clear H
      have H := H1
      clear H1
      by_cases c10 : t136 = true
      · subst c10
        have H1 : (if t139 = true then (if t135 = (wrap64 (1 + (wrap64 (Int.tmod a0 2958463)))) then (if t138 = (wrap64 (1 + (wrap64 (Int.tmod a0 2958463)))) then (if t133 < 1 then (octavolaw07_DateBack.j0 k (wrap64 (1 + (wrap64 (Int.tmod a0 2958463)))) t131 t132 t133 true) else ((date_Last.f k t131 t132).bind fun t140 => (octavolaw07_DateBack.j0 k (wrap64 (1 + (wrap64 (Int.tmod a0 2958463)))) t131 t132 t133 (decide (t133 > t140))))) else (octavolaw07_DateBack.j0 k (wrap64 (1 + (wrap64 (Int.tmod a0 2958463)))) t131 t132 t133 true)) else (octavolaw07_DateBack.j0 k (wrap64 (1 + (wrap64 (Int.tmod a0 2958463)))) t131 t132 t133 true)) else (octavolaw07_DateBack.j0 k (wrap64 (1 + (wrap64 (Int.tmod a0 2958463)))) t131 t132 t133 true)) = some r := by rw [if_pos rfl] at H; exact H
        clear H
        have H := H1
        clear H1
        by_cases c11 : t139 = true
        · subst c11
          have H1 : (if t135 = (wrap64 (1 + (wrap64 (Int.tmod a0 2958463)))) then (if t138 = (wrap64 (1 + (wrap64 (Int.tmod a0 2958463)))) then (if t133 < 1 then (octavolaw07_DateBack.j0 k (wrap64 (1 + (wrap64 (Int.tmod a0 2958463)))) t131 t132 t133 true) else ((date_Last.f k t131 t132).bind fun t140 => (octavolaw07_DateBack.j0 k (wrap64 (1 + (wrap64 (Int.tmod a0 2958463)))) t131 t132 t133 (decide (t133 > t140))))) else (octavolaw07_DateBack.j0 k (wrap64 (1 + (wrap64 (Int.tmod a0 2958463)))) t131 t132 t133 true)) else (octavolaw07_DateBack.j0 k (wrap64 (1 + (wrap64 (Int.tmod a0 2958463)))) t131 t132 t133 true)) = some r := by rw [if_pos rfl] at H; exact H
          clear H
          have H := H1
          clear H1
          by_cases c12 : t135 = (wrap64 (1 + (wrap64 (Int.tmod a0 2958463))))
          · rw [if_pos c12] at H
            have c12b0 : (t135 == (wrap64 (1 + (wrap64 (Int.tmod a0 2958463))))) = true := beq_iff_eq.mpr c12
            have c12b1 : (t135 != (wrap64 (1 + (wrap64 (Int.tmod a0 2958463))))) = false := bne_eq_false_iff_eq.mpr c12
            clear c12
            (first | rw [c12b0] | (simp only [i64_w, i32_w]; rw [c12b0]) | skip)
            by_cases c13 : t138 = (wrap64 (1 + (wrap64 (Int.tmod a0 2958463))))
            · rw [if_pos c13] at H
              have c13b0 : (t138 == (wrap64 (1 + (wrap64 (Int.tmod a0 2958463))))) = true := beq_iff_eq.mpr c13
              have c13b1 : (t138 != (wrap64 (1 + (wrap64 (Int.tmod a0 2958463))))) = false := bne_eq_false_iff_eq.mpr c13
              clear c13
              by_cases c14 : t133 < 1
              · rw [if_pos c14] at H
                have c14b0 : decide (t133 < 1) = true := decide_eq_true c14
                clear c14
                have H' := Aside0.mk H
                clear H
                go_wp2
                go_meet
                case rel => exact ⟨_, (true), (by first | rfl | (simp; done) | (simp [*]; done)), H', ⟨by first | omega | exact Nat.le_refl _⟩, ⟨by repeat (first | (with_reducible first | exact HB.out | apply below_alloc | apply pw_below_drewN | apply below_drew1) | exact HB.out)⟩⟩
              · rw [if_neg c14] at H
                have c14b0 : decide (t133 < 1) = false := decide_eq_false c14
                clear c14
                replace H := Option.bind_eq_some_iff.mp H
                obtain ⟨t140, A150, H⟩ := H
                replace H : (octavolaw07_DateBack.j0 k (wrap64 (1 + (wrap64 (Int.tmod a0 2958463)))) t131 t132 t133 (decide (t133 > t140))) = some r := H
                have A15 := Aside0.mk A150
                clear A150
                have H' := Aside0.mk H
                clear H
                go_wp2_with (first | (go_at_call 12; (with_reducible refine (date_Last.calls k t131 t132 t140 _ A15.out).mono ?_); rintro e w' ⟨rfl, ⟨nd, rfl⟩⟩))
                go_meet
                case rel => exact ⟨_, (decide (t133 > t140)), (by first | rfl | (simp; done) | (simp [*]; done)), H', ⟨by first | omega | exact Nat.le_refl _⟩, ⟨by repeat (first | (with_reducible first | exact HB.out | apply below_alloc | apply pw_below_drewN | apply below_drew1) | exact HB.out)⟩⟩
            · rw [if_neg c13] at H
              have c13b0 : (t138 == (wrap64 (1 + (wrap64 (Int.tmod a0 2958463))))) = false := beq_eq_false_iff_ne.mpr c13
              have c13b1 : (t138 != (wrap64 (1 + (wrap64 (Int.tmod a0 2958463))))) = true := bne_iff_ne.mpr c13
              have H' := Aside0.mk H
              clear H
              go_wp2
              go_meet
              case rel => exact ⟨_, (true), (by first | rfl | (simp; done) | (simp [*]; done)), H', ⟨by first | omega | exact Nat.le_refl _⟩, ⟨by repeat (first | (with_reducible first | exact HB.out | apply below_alloc | apply pw_below_drewN | apply below_drew1) | exact HB.out)⟩⟩
          · rw [if_neg c12] at H
            have c12b0 : (t135 == (wrap64 (1 + (wrap64 (Int.tmod a0 2958463))))) = false := beq_eq_false_iff_ne.mpr c12
            have c12b1 : (t135 != (wrap64 (1 + (wrap64 (Int.tmod a0 2958463))))) = true := bne_iff_ne.mpr c12
            (first | rw [c12b0] | (simp only [i64_w, i32_w]; rw [c12b0]) | skip)
            have H' := Aside0.mk H
            clear H
            go_wp2
            go_meet
            case rel => exact ⟨_, (true), (by first | rfl | (simp; done) | (simp [*]; done)), H', ⟨by first | omega | exact Nat.le_refl _⟩, ⟨by repeat (first | (with_reducible first | exact HB.out | apply below_alloc | apply pw_below_drewN | apply below_drew1) | exact HB.out)⟩⟩
        · replace c11 := Bool.eq_false_iff.mpr c11
          subst c11
          have H1 : (octavolaw07_DateBack.j0 k (wrap64 (1 + (wrap64 (Int.tmod a0 2958463)))) t131 t132 t133 true) = some r := by rw [if_neg (show ¬ (false = true) by decide)] at H; exact H
          clear H
          have H := H1
          clear H1
          have H' := Aside0.mk H
          clear H
          go_wp2
          go_meet
          case rel => exact ⟨_, (true), (by first | rfl | (simp; done) | (simp [*]; done)), H', ⟨by first | omega | exact Nat.le_refl _⟩, ⟨by repeat (first | (with_reducible first | exact HB.out | apply below_alloc | apply pw_below_drewN | apply below_drew1) | exact HB.out)⟩⟩
      · replace c10 := Bool.eq_false_iff.mpr c10
        subst c10
        have H1 : (octavolaw07_DateBack.j0 k (wrap64 (1 + (wrap64 (Int.tmod a0 2958463)))) t131 t132 t133 true) = some r := by rw [if_neg (show ¬ (false = true) by decide)] at H; exact H
        clear H
        have H := H1
        clear H1
        have H' := Aside0.mk H
        clear H
        go_wp2
        go_meet
        case rel => exact ⟨_, (true), (by first | rfl | (simp; done) | (simp [*]; done)), H', ⟨by first | omega | exact Nat.le_refl _⟩, ⟨by repeat (first | (with_reducible first | exact HB.out | apply below_alloc | apply pw_below_drewN | apply below_drew1) | exact HB.out)⟩⟩
    · replace c9 := Bool.eq_false_iff.mpr c9
      subst c9
      have H1 : (octavolaw07_DateBack.j0 k (wrap64 (1 + (wrap64 (Int.tmod a0 2958463)))) t131 t132 t133 true) = some r := by rw [if_neg (show ¬ (false = true) by decide)] at H; exact H
      clear H
      have H := H1
      clear H1
      have H' := Aside0.mk H
      clear H
      go_wp2
      go_meet
      case rel => exact ⟨_, (true), (by first | rfl | (simp; done) | (simp [*]; done)), H', ⟨by first | omega | exact Nat.le_refl _⟩, ⟨by repeat (first | (with_reducible first | exact HB.out | apply below_alloc | apply pw_below_drewN | apply below_drew1) | exact HB.out)⟩⟩
  case rest =>
    clear HC6
    try clear c1
    try clear p2
    try clear c3
    try clear p6
    try clear c8
    try clear c9
    try clear c10
    try clear c11
    try clear c12
    try clear c12b0
    try clear c12b1
    try clear c13
    try clear c13b0
    try clear c13b1
    try clear c14
    try clear c14b0
    obtain ⟨kq, x69_5, rfl, HA, HJ5, HB⟩ := hcut
    cases kq with
    | zero => exact absurd HA.out (by simp [octavolaw07_DateBack.j0])
    | succ kj5 =>
      have H := HA.out
      clear HA
      simp only [octavolaw07_DateBack.j0] at H
      by_cases c16 : x69_5 = true
      · subst c16
        have H1 : (some false) = some r := by rw [if_pos rfl] at H; exact H
        clear H
        have H := H1
        clear H1
        obtain rfl := Option.some.inj H
        go_wp2
        go_ret
        exact ⟨by first | rfl | (simp [errW_none, errW_some] <;> rfl) | (simp [*, errW_none, errW_some] <;> rfl), by repeat (first | (with_reducible first | exact HB.out | apply below_alloc | apply pw_below_drewN | apply below_drew1) | exact HB.out)⟩
      · replace c16 := Bool.eq_false_iff.mpr c16
        subst c16
        have H1 : ((date_Parts.f kj5 (wrap64 ((wrap64 (1 + (wrap64 (Int.tmod a0 2958463)))) + 1))).bind fun bt141 => (if bt141.2.2.2 = true then ((date_Last.f kj5 t131 t132).bind fun t145 => (if t133 < t145 then (if bt141.1 = t131 then (if bt141.2.1 = t132 then (octavolaw07_DateBack.j1 kj5 (wrap64 (1 + (wrap64 (Int.tmod a0 2958463)))) (bt141.2.2.1 != (wrap64 (t133 + 1)))) else (octavolaw07_DateBack.j1 kj5 (wrap64 (1 + (wrap64 (Int.tmod a0 2958463)))) true)) else (octavolaw07_DateBack.j1 kj5 (wrap64 (1 + (wrap64 (Int.tmod a0 2958463)))) true)) else (if t132 < 12 then (if bt141.1 = t131 then (if bt141.2.1 = (wrap64 (t132 + 1)) then (octavolaw07_DateBack.j2 kj5 (wrap64 (1 + (wrap64 (Int.tmod a0 2958463)))) (bt141.2.2.1 != 1)) else (octavolaw07_DateBack.j2 kj5 (wrap64 (1 + (wrap64 (Int.tmod a0 2958463)))) true)) else (octavolaw07_DateBack.j2 kj5 (wrap64 (1 + (wrap64 (Int.tmod a0 2958463)))) true)) else (if bt141.1 = (wrap64 (t131 + 1)) then (if bt141.2.1 = 1 then (octavolaw07_DateBack.j3 kj5 (wrap64 (1 + (wrap64 (Int.tmod a0 2958463)))) (bt141.2.2.1 != 1)) else (octavolaw07_DateBack.j3 kj5 (wrap64 (1 + (wrap64 (Int.tmod a0 2958463)))) true)) else (octavolaw07_DateBack.j3 kj5 (wrap64 (1 + (wrap64 (Int.tmod a0 2958463)))) true))))) else (some false))) = some r := by rw [if_neg (show ¬ (false = true) by decide)] at H; exact H
        clear H
        have H := H1
        clear H1
        replace H := Option.bind_eq_some_iff.mp H
        obtain ⟨⟨t141, t142, t143, t144⟩, A170, H⟩ := H
        replace H : (if t144 = true then ((date_Last.f kj5 t131 t132).bind fun t145 => (if t133 < t145 then (if t141 = t131 then (if t142 = t132 then (octavolaw07_DateBack.j1 kj5 (wrap64 (1 + (wrap64 (Int.tmod a0 2958463)))) (t143 != (wrap64 (t133 + 1)))) else (octavolaw07_DateBack.j1 kj5 (wrap64 (1 + (wrap64 (Int.tmod a0 2958463)))) true)) else (octavolaw07_DateBack.j1 kj5 (wrap64 (1 + (wrap64 (Int.tmod a0 2958463)))) true)) else (if t132 < 12 then (if t141 = t131 then (if t142 = (wrap64 (t132 + 1)) then (octavolaw07_DateBack.j2 kj5 (wrap64 (1 + (wrap64 (Int.tmod a0 2958463)))) (t143 != 1)) else (octavolaw07_DateBack.j2 kj5 (wrap64 (1 + (wrap64 (Int.tmod a0 2958463)))) true)) else (octavolaw07_DateBack.j2 kj5 (wrap64 (1 + (wrap64 (Int.tmod a0 2958463)))) true)) else (if t141 = (wrap64 (t131 + 1)) then (if t142 = 1 then (octavolaw07_DateBack.j3 kj5 (wrap64 (1 + (wrap64 (Int.tmod a0 2958463)))) (t143 != 1)) else (octavolaw07_DateBack.j3 kj5 (wrap64 (1 + (wrap64 (Int.tmod a0 2958463)))) true)) else (octavolaw07_DateBack.j3 kj5 (wrap64 (1 + (wrap64 (Int.tmod a0 2958463)))) true))))) else (some false)) = some r := H
        have A17 := Aside0.mk A170
        clear A170
        by_cases c18 : t144 = true
        · subst c18
          have H1 : ((date_Last.f kj5 t131 t132).bind fun t145 => (if t133 < t145 then (if t141 = t131 then (if t142 = t132 then (octavolaw07_DateBack.j1 kj5 (wrap64 (1 + (wrap64 (Int.tmod a0 2958463)))) (t143 != (wrap64 (t133 + 1)))) else (octavolaw07_DateBack.j1 kj5 (wrap64 (1 + (wrap64 (Int.tmod a0 2958463)))) true)) else (octavolaw07_DateBack.j1 kj5 (wrap64 (1 + (wrap64 (Int.tmod a0 2958463)))) true)) else (if t132 < 12 then (if t141 = t131 then (if t142 = (wrap64 (t132 + 1)) then (octavolaw07_DateBack.j2 kj5 (wrap64 (1 + (wrap64 (Int.tmod a0 2958463)))) (t143 != 1)) else (octavolaw07_DateBack.j2 kj5 (wrap64 (1 + (wrap64 (Int.tmod a0 2958463)))) true)) else (octavolaw07_DateBack.j2 kj5 (wrap64 (1 + (wrap64 (Int.tmod a0 2958463)))) true)) else (if t141 = (wrap64 (t131 + 1)) then (if t142 = 1 then (octavolaw07_DateBack.j3 kj5 (wrap64 (1 + (wrap64 (Int.tmod a0 2958463)))) (t143 != 1)) else (octavolaw07_DateBack.j3 kj5 (wrap64 (1 + (wrap64 (Int.tmod a0 2958463)))) true)) else (octavolaw07_DateBack.j3 kj5 (wrap64 (1 + (wrap64 (Int.tmod a0 2958463)))) true))))) = some r := by rw [if_pos rfl] at H; exact H
          clear H
          have H := H1
          clear H1
          replace H := Option.bind_eq_some_iff.mp H
          obtain ⟨t145, A190, H⟩ := H
          replace H : (if t133 < t145 then (if t141 = t131 then (if t142 = t132 then (octavolaw07_DateBack.j1 kj5 (wrap64 (1 + (wrap64 (Int.tmod a0 2958463)))) (t143 != (wrap64 (t133 + 1)))) else (octavolaw07_DateBack.j1 kj5 (wrap64 (1 + (wrap64 (Int.tmod a0 2958463)))) true)) else (octavolaw07_DateBack.j1 kj5 (wrap64 (1 + (wrap64 (Int.tmod a0 2958463)))) true)) else (if t132 < 12 then (if t141 = t131 then (if t142 = (wrap64 (t132 + 1)) then (octavolaw07_DateBack.j2 kj5 (wrap64 (1 + (wrap64 (Int.tmod a0 2958463)))) (t143 != 1)) else (octavolaw07_DateBack.j2 kj5 (wrap64 (1 + (wrap64 (Int.tmod a0 2958463)))) true)) else (octavolaw07_DateBack.j2 kj5 (wrap64 (1 + (wrap64 (Int.tmod a0 2958463)))) true)) else (if t141 = (wrap64 (t131 + 1)) then (if t142 = 1 then (octavolaw07_DateBack.j3 kj5 (wrap64 (1 + (wrap64 (Int.tmod a0 2958463)))) (t143 != 1)) else (octavolaw07_DateBack.j3 kj5 (wrap64 (1 + (wrap64 (Int.tmod a0 2958463)))) true)) else (octavolaw07_DateBack.j3 kj5 (wrap64 (1 + (wrap64 (Int.tmod a0 2958463)))) true)))) = some r := H
          have A19 := Aside0.mk A190
          clear A190
          by_cases c20 : t133 < t145
          · rw [if_pos c20] at H
            have c20b0 : decide (t133 < t145) = true := decide_eq_true c20
            clear c20
            have HC21 := Aside0.mk H
            clear H
            go_upto_region 13 with (first | ((with_reducible refine gate_callee (f := 8) rfl ?_); refine goesL_ (some 73) rfl rfl Try.func8 (by kernel_rfl) rfl #[.int .i64 (wrap64 ((wrap64 (1 + (wrap64 (Int.tmod a0 2958463)))) + 1))] rfl (by (try simp only [List.map_toArray, List.map_cons, List.map_nil]); first | done | rfl | (simp only [List.length_drop, List.length_take]; rfl)) ?_; (with_reducible refine (date_Parts.calls kj5 (wrap64 ((wrap64 (1 + (wrap64 (Int.tmod a0 2958463)))) + 1)) t141 t142 t143 true _ A17.out).mono ?_); rintro e w' ⟨rfl, ⟨nd, rfl⟩⟩; refine ⟨_, rfl, ?_⟩) | ((with_reducible refine gate_callee (f := 12) rfl ?_); refine goesL_ (some 96) rfl rfl Try.func12 (by kernel_rfl) rfl #[.int .i64 t131, .int .i64 t132] rfl (by (try simp only [List.map_toArray, List.map_cons, List.map_nil]); first | done | rfl | (simp only [List.length_drop, List.length_take]; rfl)) ?_; (with_reducible refine (date_Last.calls kj5 t131 t132 t145 _ A19.out).mono ?_); rintro e w' ⟨rfl, ⟨nd, rfl⟩⟩; refine ⟨_, rfl, ?_⟩))
            (try simp only [Act.put, List.setIfInBounds_toArray, List.set_cons_zero, List.set_cons_succ])
            go_cut [111] (fun v111 wc => ∃ (kq : Nat) (x111_20 : Bool), v111 = .bool x111_20 ∧ Aside0 (octavolaw07_DateBack.j1 kq (wrap64 (1 + (wrap64 (Int.tmod a0 2958463)))) x111_20 = some r) ∧ Aside0 (kq ≤ kj5) ∧ Aside0 (Below w.heap.size w wc))
            case first =>
              have H := HC21.out
              clear HC21
              by_cases c22 : t141 = t131
              · rw [if_pos c22] at H
                have c22b0 : (t141 == t131) = true := beq_iff_eq.mpr c22
                have c22b1 : (t141 != t131) = false := bne_eq_false_iff_eq.mpr c22
                clear c22
                (first | rw [c22b0] | (simp only [i64_w, i32_w]; rw [c22b0]) | skip)
                by_cases c23 : t142 = t132
                · rw [if_pos c23] at H
                  have c23b0 : (t142 == t132) = true := beq_iff_eq.mpr c23
                  have c23b1 : (t142 != t132) = false := bne_eq_false_iff_eq.mpr c23
                  clear c23
                  have H' := Aside0.mk H
                  clear H
                  go_wp2
                  go_meet
                  case rel => exact ⟨_, ((t143 != (wrap64 (t133 + 1)))), (by first | rfl | (simp; done) | (simp [*]; done)), H', ⟨by have := HJ5.out; first | omega | exact Nat.le_refl _⟩, ⟨by repeat (first | (with_reducible first | exact HB.out | apply below_alloc | apply pw_below_drewN | apply below_drew1) | exact HB.out)⟩⟩
                · rw [if_neg c23] at H
                  have c23b0 : (t142 == t132) = false := beq_eq_false_iff_ne.mpr c23
                  have c23b1 : (t142 != t132) = true := bne_iff_ne.mpr c23
                  have H' := Aside0.mk H
                  clear H
                  go_wp2
                  go_meet
                  case rel => exact ⟨_, (true), (by first | rfl | (simp; done) | (simp [*]; done)), H', ⟨by have := HJ5.out; first | omega | exact Nat.le_refl _⟩, ⟨by repeat (first | (with_reducible first | exact HB.out | apply below_alloc | apply pw_below_drewN | apply below_drew1) | exact HB.out)⟩⟩
              · rw [if_neg c22] at H
                have c22b0 : (t141 == t131) = false := beq_eq_false_iff_ne.mpr c22
                have c22b1 : (t141 != t131) = true := bne_iff_ne.mpr c22
                (first | rw [c22b0] | (simp only [i64_w, i32_w]; rw [c22b0]) | skip)
                have H' := Aside0.mk H
                clear H
                go_wp2
                go_meet
                case rel => exact ⟨_, (true), (by first | rfl | (simp; done) | (simp [*]; done)), H', ⟨by have := HJ5.out; first | omega | exact Nat.le_refl _⟩, ⟨by repeat (first | (with_reducible first | exact HB.out | apply below_alloc | apply pw_below_drewN | apply below_drew1) | exact HB.out)⟩⟩
            case rest =>
              clear HC21
              try clear c1
              try clear c2
              try clear p2
              try clear c3
              try clear p6
              try clear c8
              try clear c9
              try clear c10
              try clear c11
              try clear c12
              try clear c12b0
              try clear c12b1
              try clear c13
              try clear c13b0
              try clear c13b1
              try clear c14
              try clear c14b0
              try clear c16
              try clear c18
              try clear c20
              try clear c20b0
              try clear c22
              try clear c22b0
              try clear c22b1
              try clear c23
              try clear c23b0
              try clear c23b1
              try clear p2
              try clear p6
              obtain ⟨kq, x111_20, rfl, HA, HJ20, HB⟩ := hcut
              cases kq with
              | zero => exact absurd HA.out (by simp [octavolaw07_DateBack.j1])
              | succ kj20 =>
                have H := HA.out
                clear HA
                simp only [octavolaw07_DateBack.j1] at H
                by_cases c24 : x111_20 = true
                · subst c24
                  have H1 : (some false) = some r := by rw [if_pos rfl] at H; exact H
                  clear H
                  have H := H1
                  clear H1
                  obtain rfl := Option.some.inj H
                  go_wp2
                  go_ret
                  exact ⟨by first | rfl | (simp [errW_none, errW_some] <;> rfl) | (simp [*, errW_none, errW_some] <;> rfl), by repeat (first | (with_reducible first | exact HB.out | apply below_alloc | apply pw_below_drewN | apply below_drew1) | exact HB.out)⟩
                · replace c24 := Bool.eq_false_iff.mpr c24
                  subst c24
                  have H1 : ((date_Weekday.f (wrap64 ((wrap64 (1 + (wrap64 (Int.tmod a0 2958463)))) + 1))).bind fun t146 => ((date_Weekday.f (wrap64 (1 + (wrap64 (Int.tmod a0 2958463))))).bind fun t147 => (if t146 = (wrap64 ((Int.tmod t147 7) + 1)) then ((octavolaw07_lives.f kj20).bind fun t148 => (some t148)) else (some false)))) = some r := by rw [if_neg (show ¬ (false = true) by decide)] at H; exact H
                  clear H
                  have H := H1
                  clear H1
                  replace H := Option.bind_eq_some_iff.mp H
                  obtain ⟨t146, A250, H⟩ := H
                  replace H : ((date_Weekday.f (wrap64 (1 + (wrap64 (Int.tmod a0 2958463))))).bind fun t147 => (if t146 = (wrap64 ((Int.tmod t147 7) + 1)) then ((octavolaw07_lives.f kj20).bind fun t148 => (some t148)) else (some false))) = some r := H
                  have A25 := Aside0.mk A250
                  clear A250
                  replace H := Option.bind_eq_some_iff.mp H
                  obtain ⟨t147, A260, H⟩ := H
                  replace H : (if t146 = (wrap64 ((Int.tmod t147 7) + 1)) then ((octavolaw07_lives.f kj20).bind fun t148 => (some t148)) else (some false)) = some r := H
                  have A26 := Aside0.mk A260
                  clear A260
                  by_cases c27 : t146 = (wrap64 ((Int.tmod t147 7) + 1))
                  · rw [if_pos c27] at H
                    have c27b0 : (t146 == (wrap64 ((Int.tmod t147 7) + 1))) = true := beq_iff_eq.mpr c27
                    have c27b1 : (t146 != (wrap64 ((Int.tmod t147 7) + 1))) = false := bne_eq_false_iff_eq.mpr c27
                    clear c27
                    replace H := Option.bind_eq_some_iff.mp H
                    obtain ⟨t148, A280, H⟩ := H
                    replace H : (some t148) = some r := H
                    have A28 := Aside0.mk A280
                    clear A280
                    obtain rfl := Option.some.inj H
                    go_wp2_with (first | ((with_reducible refine gate_callee (f := 13) rfl ?_); refine goesL_ (some 130) rfl rfl Try.func13 (by kernel_rfl) rfl #[.int .i64 (wrap64 ((wrap64 (1 + (wrap64 (Int.tmod a0 2958463)))) + 1))] rfl (by (try simp only [List.map_toArray, List.map_cons, List.map_nil]); first | done | rfl | (simp only [List.length_drop, List.length_take]; rfl)) ?_; (with_reducible refine (date_Weekday.calls (wrap64 ((wrap64 (1 + (wrap64 (Int.tmod a0 2958463)))) + 1)) t146 _ A25.out).mono ?_); rintro e w' ⟨rfl, ⟨nd, rfl⟩⟩; refine ⟨_, rfl, ?_⟩) | ((with_reducible refine gate_callee (f := 13) rfl ?_); refine goesL_ (some 132) rfl rfl Try.func13 (by kernel_rfl) rfl #[.int .i64 (wrap64 (1 + (wrap64 (Int.tmod a0 2958463))))] rfl (by (try simp only [List.map_toArray, List.map_cons, List.map_nil]); first | done | rfl | (simp only [List.length_drop, List.length_take]; rfl)) ?_; (with_reducible refine (date_Weekday.calls (wrap64 (1 + (wrap64 (Int.tmod a0 2958463)))) t147 _ A26.out).mono ?_); rintro e w' ⟨rfl, ⟨nd, rfl⟩⟩; refine ⟨_, rfl, ?_⟩) | (go_at_call 14; (with_reducible refine (octavolaw07_lives.calls kj20  t148 _ A28.out).mono ?_); rintro e w29 ⟨rfl, hb⟩; have n0_ := Aside0.mk (below_step (by repeat (first | (with_reducible first | exact HB.out | apply below_alloc | apply pw_below_drewN | apply below_drew1) | exact HB.out)) hb); clear HB; have HB := n0_; clear n0_; (try clear hb); (try clear hb2); (try clear hk); (try clear hi)))
                    go_ret
                    exact ⟨by first | rfl | (simp [errW_none, errW_some] <;> rfl) | (simp [*, errW_none, errW_some] <;> rfl), by repeat (first | (with_reducible first | exact HB.out | apply below_alloc | apply pw_below_drewN | apply below_drew1) | exact HB.out)⟩
                  · rw [if_neg c27] at H
                    have c27b0 : (t146 == (wrap64 ((Int.tmod t147 7) + 1))) = false := beq_eq_false_iff_ne.mpr c27
                    have c27b1 : (t146 != (wrap64 ((Int.tmod t147 7) + 1))) = true := bne_iff_ne.mpr c27
                    obtain rfl := Option.some.inj H
                    go_wp2_with (first | ((with_reducible refine gate_callee (f := 13) rfl ?_); refine goesL_ (some 130) rfl rfl Try.func13 (by kernel_rfl) rfl #[.int .i64 (wrap64 ((wrap64 (1 + (wrap64 (Int.tmod a0 2958463)))) + 1))] rfl (by (try simp only [List.map_toArray, List.map_cons, List.map_nil]); first | done | rfl | (simp only [List.length_drop, List.length_take]; rfl)) ?_; (with_reducible refine (date_Weekday.calls (wrap64 ((wrap64 (1 + (wrap64 (Int.tmod a0 2958463)))) + 1)) t146 _ A25.out).mono ?_); rintro e w' ⟨rfl, ⟨nd, rfl⟩⟩; refine ⟨_, rfl, ?_⟩) | ((with_reducible refine gate_callee (f := 13) rfl ?_); refine goesL_ (some 132) rfl rfl Try.func13 (by kernel_rfl) rfl #[.int .i64 (wrap64 (1 + (wrap64 (Int.tmod a0 2958463))))] rfl (by (try simp only [List.map_toArray, List.map_cons, List.map_nil]); first | done | rfl | (simp only [List.length_drop, List.length_take]; rfl)) ?_; (with_reducible refine (date_Weekday.calls (wrap64 (1 + (wrap64 (Int.tmod a0 2958463)))) t147 _ A26.out).mono ?_); rintro e w' ⟨rfl, ⟨nd, rfl⟩⟩; refine ⟨_, rfl, ?_⟩))
                    go_ret
                    exact ⟨by first | rfl | (simp [errW_none, errW_some] <;> rfl) | (simp [*, errW_none, errW_some] <;> rfl), by repeat (first | (with_reducible first | exact HB.out | apply below_alloc | apply pw_below_drewN | apply below_drew1) | exact HB.out)⟩
          · rw [if_neg c20] at H
            have c20b0 : decide (t133 < t145) = false := decide_eq_false c20
            clear c20
            by_cases c30 : t132 < 12
            · rw [if_pos c30] at H
              have c30b0 : decide (t132 < 12) = true := decide_eq_true c30
              clear c30
              have HC31 := Aside0.mk H
              clear H
              go_upto_region 16 with (first | ((with_reducible refine gate_callee (f := 8) rfl ?_); refine goesL_ (some 73) rfl rfl Try.func8 (by kernel_rfl) rfl #[.int .i64 (wrap64 ((wrap64 (1 + (wrap64 (Int.tmod a0 2958463)))) + 1))] rfl (by (try simp only [List.map_toArray, List.map_cons, List.map_nil]); first | done | rfl | (simp only [List.length_drop, List.length_take]; rfl)) ?_; (with_reducible refine (date_Parts.calls kj5 (wrap64 ((wrap64 (1 + (wrap64 (Int.tmod a0 2958463)))) + 1)) t141 t142 t143 true _ A17.out).mono ?_); rintro e w' ⟨rfl, ⟨nd, rfl⟩⟩; refine ⟨_, rfl, ?_⟩) | ((with_reducible refine gate_callee (f := 12) rfl ?_); refine goesL_ (some 96) rfl rfl Try.func12 (by kernel_rfl) rfl #[.int .i64 t131, .int .i64 t132] rfl (by (try simp only [List.map_toArray, List.map_cons, List.map_nil]); first | done | rfl | (simp only [List.length_drop, List.length_take]; rfl)) ?_; (with_reducible refine (date_Last.calls kj5 t131 t132 t145 _ A19.out).mono ?_); rintro e w' ⟨rfl, ⟨nd, rfl⟩⟩; refine ⟨_, rfl, ?_⟩))
              (try simp only [Act.put, List.setIfInBounds_toArray, List.set_cons_zero, List.set_cons_succ])
              go_cut [127] (fun v127 wc => ∃ (kq : Nat) (x127_30 : Bool), v127 = .bool x127_30 ∧ Aside0 (octavolaw07_DateBack.j2 kq (wrap64 (1 + (wrap64 (Int.tmod a0 2958463)))) x127_30 = some r) ∧ Aside0 (kq ≤ kj5) ∧ Aside0 (Below w.heap.size w wc))
              case first =>
                have H := HC31.out
                clear HC31
                by_cases c32 : t141 = t131
                · rw [if_pos c32] at H
                  have c32b0 : (t141 == t131) = true := beq_iff_eq.mpr c32
                  have c32b1 : (t141 != t131) = false := bne_eq_false_iff_eq.mpr c32
                  clear c32
                  (first | rw [c32b0] | (simp only [i64_w, i32_w]; rw [c32b0]) | skip)
                  by_cases c33 : t142 = (wrap64 (t132 + 1))
                  · rw [if_pos c33] at H
                    have c33b0 : (t142 == (wrap64 (t132 + 1))) = true := beq_iff_eq.mpr c33
                    have c33b1 : (t142 != (wrap64 (t132 + 1))) = false := bne_eq_false_iff_eq.mpr c33
                    clear c33
                    have H' := Aside0.mk H
                    clear H
                    go_wp2
                    go_meet
                    case rel => exact ⟨_, ((t143 != 1)), (by first | rfl | (simp; done) | (simp [*]; done)), H', ⟨by have := HJ5.out; first | omega | exact Nat.le_refl _⟩, ⟨by repeat (first | (with_reducible first | exact HB.out | apply below_alloc | apply pw_below_drewN | apply below_drew1) | exact HB.out)⟩⟩
                  · rw [if_neg c33] at H
                    have c33b0 : (t142 == (wrap64 (t132 + 1))) = false := beq_eq_false_iff_ne.mpr c33
                    have c33b1 : (t142 != (wrap64 (t132 + 1))) = true := bne_iff_ne.mpr c33
                    have H' := Aside0.mk H
                    clear H
                    go_wp2
                    go_meet
                    case rel => exact ⟨_, (true), (by first | rfl | (simp; done) | (simp [*]; done)), H', ⟨by have := HJ5.out; first | omega | exact Nat.le_refl _⟩, ⟨by repeat (first | (with_reducible first | exact HB.out | apply below_alloc | apply pw_below_drewN | apply below_drew1) | exact HB.out)⟩⟩
                · rw [if_neg c32] at H
                  have c32b0 : (t141 == t131) = false := beq_eq_false_iff_ne.mpr c32
                  have c32b1 : (t141 != t131) = true := bne_iff_ne.mpr c32
                  (first | rw [c32b0] | (simp only [i64_w, i32_w]; rw [c32b0]) | skip)
                  have H' := Aside0.mk H
                  clear H
                  go_wp2
                  go_meet
                  case rel => exact ⟨_, (true), (by first | rfl | (simp; done) | (simp [*]; done)), H', ⟨by have := HJ5.out; first | omega | exact Nat.le_refl _⟩, ⟨by repeat (first | (with_reducible first | exact HB.out | apply below_alloc | apply pw_below_drewN | apply below_drew1) | exact HB.out)⟩⟩
              case rest =>
                clear HC31
                try clear c1
                try clear c2
                try clear p2
                try clear c3
                try clear p6
                try clear c8
                try clear c9
                try clear c10
                try clear c11
                try clear c12
                try clear c12b0
                try clear c12b1
                try clear c13
                try clear c13b0
                try clear c13b1
                try clear c14
                try clear c14b0
                try clear c16
                try clear c18
                try clear c20
                try clear c20b0
                try clear c22
                try clear c22b0
                try clear c22b1
                try clear c23
                try clear c23b0
                try clear c23b1
                try clear c24
                try clear c27
                try clear c27b0
                try clear c27b1
                try clear c30
                try clear c30b0
                try clear c32
                try clear c32b0
                try clear c32b1
                try clear c33
                try clear c33b0
                try clear c33b1
                try clear p2
                try clear p6
                obtain ⟨kq, x127_30, rfl, HA, HJ30, HB⟩ := hcut
                cases kq with
                | zero => exact absurd HA.out (by simp [octavolaw07_DateBack.j2])
                | succ kj30 =>
                  have H := HA.out
                  clear HA
                  simp only [octavolaw07_DateBack.j2] at H
                  by_cases c34 : x127_30 = true
                  · subst c34
                    have H1 : (some false) = some r := by rw [if_pos rfl] at H; exact H
                    clear H
                    have H := H1
                    clear H1
                    obtain rfl := Option.some.inj H
                    go_wp2
                    go_ret
                    exact ⟨by first | rfl | (simp [errW_none, errW_some] <;> rfl) | (simp [*, errW_none, errW_some] <;> rfl), by repeat (first | (with_reducible first | exact HB.out | apply below_alloc | apply pw_below_drewN | apply below_drew1) | exact HB.out)⟩
                  · replace c34 := Bool.eq_false_iff.mpr c34
                    subst c34
                    have H1 : ((date_Weekday.f (wrap64 ((wrap64 (1 + (wrap64 (Int.tmod a0 2958463)))) + 1))).bind fun t149 => ((date_Weekday.f (wrap64 (1 + (wrap64 (Int.tmod a0 2958463))))).bind fun t150 => (if t149 = (wrap64 ((Int.tmod t150 7) + 1)) then ((octavolaw07_lives.f kj30).bind fun t151 => (some t151)) else (some false)))) = some r := by rw [if_neg (show ¬ (false = true) by decide)] at H; exact H
                    clear H
                    have H := H1
                    clear H1
                    replace H := Option.bind_eq_some_iff.mp H
                    obtain ⟨t149, A350, H⟩ := H
                    replace H : ((date_Weekday.f (wrap64 (1 + (wrap64 (Int.tmod a0 2958463))))).bind fun t150 => (if t149 = (wrap64 ((Int.tmod t150 7) + 1)) then ((octavolaw07_lives.f kj30).bind fun t151 => (some t151)) else (some false))) = some r := H
                    have A35 := Aside0.mk A350
                    clear A350
                    replace H := Option.bind_eq_some_iff.mp H
                    obtain ⟨t150, A360, H⟩ := H
                    replace H : (if t149 = (wrap64 ((Int.tmod t150 7) + 1)) then ((octavolaw07_lives.f kj30).bind fun t151 => (some t151)) else (some false)) = some r := H
                    have A36 := Aside0.mk A360
                    clear A360
                    by_cases c37 : t149 = (wrap64 ((Int.tmod t150 7) + 1))
                    · rw [if_pos c37] at H
                      have c37b0 : (t149 == (wrap64 ((Int.tmod t150 7) + 1))) = true := beq_iff_eq.mpr c37
                      have c37b1 : (t149 != (wrap64 ((Int.tmod t150 7) + 1))) = false := bne_eq_false_iff_eq.mpr c37
                      clear c37
                      replace H := Option.bind_eq_some_iff.mp H
                      obtain ⟨t151, A380, H⟩ := H
                      replace H : (some t151) = some r := H
                      have A38 := Aside0.mk A380
                      clear A380
                      obtain rfl := Option.some.inj H
                      go_wp2_with (first | ((with_reducible refine gate_callee (f := 13) rfl ?_); refine goesL_ (some 130) rfl rfl Try.func13 (by kernel_rfl) rfl #[.int .i64 (wrap64 ((wrap64 (1 + (wrap64 (Int.tmod a0 2958463)))) + 1))] rfl (by (try simp only [List.map_toArray, List.map_cons, List.map_nil]); first | done | rfl | (simp only [List.length_drop, List.length_take]; rfl)) ?_; (with_reducible refine (date_Weekday.calls (wrap64 ((wrap64 (1 + (wrap64 (Int.tmod a0 2958463)))) + 1)) t149 _ A35.out).mono ?_); rintro e w' ⟨rfl, ⟨nd, rfl⟩⟩; refine ⟨_, rfl, ?_⟩) | ((with_reducible refine gate_callee (f := 13) rfl ?_); refine goesL_ (some 132) rfl rfl Try.func13 (by kernel_rfl) rfl #[.int .i64 (wrap64 (1 + (wrap64 (Int.tmod a0 2958463))))] rfl (by (try simp only [List.map_toArray, List.map_cons, List.map_nil]); first | done | rfl | (simp only [List.length_drop, List.length_take]; rfl)) ?_; (with_reducible refine (date_Weekday.calls (wrap64 (1 + (wrap64 (Int.tmod a0 2958463)))) t150 _ A36.out).mono ?_); rintro e w' ⟨rfl, ⟨nd, rfl⟩⟩; refine ⟨_, rfl, ?_⟩) | (go_at_call 14; (with_reducible refine (octavolaw07_lives.calls kj30  t151 _ A38.out).mono ?_); rintro e w39 ⟨rfl, hb⟩; have n0_ := Aside0.mk (below_step (by repeat (first | (with_reducible first | exact HB.out | apply below_alloc | apply pw_below_drewN | apply below_drew1) | exact HB.out)) hb); clear HB; have HB := n0_; clear n0_; (try clear hb); (try clear hb2); (try clear hk); (try clear hi)))
                      go_ret
                      exact ⟨by first | rfl | (simp [errW_none, errW_some] <;> rfl) | (simp [*, errW_none, errW_some] <;> rfl), by repeat (first | (with_reducible first | exact HB.out | apply below_alloc | apply pw_below_drewN | apply below_drew1) | exact HB.out)⟩
                    · rw [if_neg c37] at H
                      have c37b0 : (t149 == (wrap64 ((Int.tmod t150 7) + 1))) = false := beq_eq_false_iff_ne.mpr c37
                      have c37b1 : (t149 != (wrap64 ((Int.tmod t150 7) + 1))) = true := bne_iff_ne.mpr c37
                      obtain rfl := Option.some.inj H
                      go_wp2_with (first | ((with_reducible refine gate_callee (f := 13) rfl ?_); refine goesL_ (some 130) rfl rfl Try.func13 (by kernel_rfl) rfl #[.int .i64 (wrap64 ((wrap64 (1 + (wrap64 (Int.tmod a0 2958463)))) + 1))] rfl (by (try simp only [List.map_toArray, List.map_cons, List.map_nil]); first | done | rfl | (simp only [List.length_drop, List.length_take]; rfl)) ?_; (with_reducible refine (date_Weekday.calls (wrap64 ((wrap64 (1 + (wrap64 (Int.tmod a0 2958463)))) + 1)) t149 _ A35.out).mono ?_); rintro e w' ⟨rfl, ⟨nd, rfl⟩⟩; refine ⟨_, rfl, ?_⟩) | ((with_reducible refine gate_callee (f := 13) rfl ?_); refine goesL_ (some 132) rfl rfl Try.func13 (by kernel_rfl) rfl #[.int .i64 (wrap64 (1 + (wrap64 (Int.tmod a0 2958463))))] rfl (by (try simp only [List.map_toArray, List.map_cons, List.map_nil]); first | done | rfl | (simp only [List.length_drop, List.length_take]; rfl)) ?_; (with_reducible refine (date_Weekday.calls (wrap64 (1 + (wrap64 (Int.tmod a0 2958463)))) t150 _ A36.out).mono ?_); rintro e w' ⟨rfl, ⟨nd, rfl⟩⟩; refine ⟨_, rfl, ?_⟩))
                      go_ret
                      exact ⟨by first | rfl | (simp [errW_none, errW_some] <;> rfl) | (simp [*, errW_none, errW_some] <;> rfl), by repeat (first | (with_reducible first | exact HB.out | apply below_alloc | apply pw_below_drewN | apply below_drew1) | exact HB.out)⟩
            · rw [if_neg c30] at H
              have c30b0 : decide (t132 < 12) = false := decide_eq_false c30
              clear c30
              have HC40 := Aside0.mk H
              clear H
              go_upto_region 10 with (first | ((with_reducible refine gate_callee (f := 8) rfl ?_); refine goesL_ (some 73) rfl rfl Try.func8 (by kernel_rfl) rfl #[.int .i64 (wrap64 ((wrap64 (1 + (wrap64 (Int.tmod a0 2958463)))) + 1))] rfl (by (try simp only [List.map_toArray, List.map_cons, List.map_nil]); first | done | rfl | (simp only [List.length_drop, List.length_take]; rfl)) ?_; (with_reducible refine (date_Parts.calls kj5 (wrap64 ((wrap64 (1 + (wrap64 (Int.tmod a0 2958463)))) + 1)) t141 t142 t143 true _ A17.out).mono ?_); rintro e w' ⟨rfl, ⟨nd, rfl⟩⟩; refine ⟨_, rfl, ?_⟩) | ((with_reducible refine gate_callee (f := 12) rfl ?_); refine goesL_ (some 96) rfl rfl Try.func12 (by kernel_rfl) rfl #[.int .i64 t131, .int .i64 t132] rfl (by (try simp only [List.map_toArray, List.map_cons, List.map_nil]); first | done | rfl | (simp only [List.length_drop, List.length_take]; rfl)) ?_; (with_reducible refine (date_Last.calls kj5 t131 t132 t145 _ A19.out).mono ?_); rintro e w' ⟨rfl, ⟨nd, rfl⟩⟩; refine ⟨_, rfl, ?_⟩))
              (try simp only [Act.put, List.setIfInBounds_toArray, List.set_cons_zero, List.set_cons_succ])
              go_cut [91] (fun v91 wc => ∃ (kq : Nat) (x91_39 : Bool), v91 = .bool x91_39 ∧ Aside0 (octavolaw07_DateBack.j3 kq (wrap64 (1 + (wrap64 (Int.tmod a0 2958463)))) x91_39 = some r) ∧ Aside0 (kq ≤ kj5) ∧ Aside0 (Below w.heap.size w wc))
              case first =>
                have H := HC40.out
                clear HC40
                by_cases c41 : t141 = (wrap64 (t131 + 1))
                · rw [if_pos c41] at H
                  have c41b0 : (t141 == (wrap64 (t131 + 1))) = true := beq_iff_eq.mpr c41
                  have c41b1 : (t141 != (wrap64 (t131 + 1))) = false := bne_eq_false_iff_eq.mpr c41
                  clear c41
                  (first | rw [c41b0] | (simp only [i64_w, i32_w]; rw [c41b0]) | skip)
                  by_cases c42 : t142 = 1
                  · rw [if_pos c42] at H
                    have c42b0 : (t142 == 1) = true := beq_iff_eq.mpr c42
                    have c42b1 : (t142 != 1) = false := bne_eq_false_iff_eq.mpr c42
                    clear c42
                    have H' := Aside0.mk H
                    clear H
                    go_wp2
                    go_meet
                    case rel => exact ⟨_, ((t143 != 1)), (by first | rfl | (simp; done) | (simp [*]; done)), H', ⟨by have := HJ5.out; first | omega | exact Nat.le_refl _⟩, ⟨by repeat (first | (with_reducible first | exact HB.out | apply below_alloc | apply pw_below_drewN | apply below_drew1) | exact HB.out)⟩⟩
                  · rw [if_neg c42] at H
                    have c42b0 : (t142 == 1) = false := beq_eq_false_iff_ne.mpr c42
                    have c42b1 : (t142 != 1) = true := bne_iff_ne.mpr c42
                    have H' := Aside0.mk H
                    clear H
                    go_wp2
                    go_meet
                    case rel => exact ⟨_, (true), (by first | rfl | (simp; done) | (simp [*]; done)), H', ⟨by have := HJ5.out; first | omega | exact Nat.le_refl _⟩, ⟨by repeat (first | (with_reducible first | exact HB.out | apply below_alloc | apply pw_below_drewN | apply below_drew1) | exact HB.out)⟩⟩
                · rw [if_neg c41] at H
                  have c41b0 : (t141 == (wrap64 (t131 + 1))) = false := beq_eq_false_iff_ne.mpr c41
                  have c41b1 : (t141 != (wrap64 (t131 + 1))) = true := bne_iff_ne.mpr c41
                  (first | rw [c41b0] | (simp only [i64_w, i32_w]; rw [c41b0]) | skip)
                  have H' := Aside0.mk H
                  clear H
                  go_wp2
                  go_meet
                  case rel => exact ⟨_, (true), (by first | rfl | (simp; done) | (simp [*]; done)), H', ⟨by have := HJ5.out; first | omega | exact Nat.le_refl _⟩, ⟨by repeat (first | (with_reducible first | exact HB.out | apply below_alloc | apply pw_below_drewN | apply below_drew1) | exact HB.out)⟩⟩
              case rest =>
                clear HC40
                try clear c1
                try clear c2
                try clear p2
                try clear c3
                try clear c4
                try clear p6
                try clear c8
                try clear c9
                try clear c10
                try clear c11
                try clear c12
                try clear c12b0
                try clear c12b1
                try clear c13
                try clear c13b0
                try clear c13b1
                try clear c14
                try clear c14b0
                try clear c16
                try clear c18
                try clear c20
                try clear c20b0
                try clear c22
                try clear c22b0
                try clear c22b1
                try clear c23
                try clear c23b0
                try clear c23b1
                try clear c24
                try clear c27
                try clear c27b0
                try clear c27b1
                try clear c30
                try clear c30b0
                try clear c32
                try clear c32b0
                try clear c32b1
                try clear c33
                try clear c33b0
                try clear c33b1
                try clear c34
                try clear c37
                try clear c37b0
                try clear c37b1
                try clear c41
                try clear c41b0
                try clear c41b1
                try clear c42
                try clear c42b0
                try clear c42b1
                try clear p2
                try clear p6
                obtain ⟨kq, x91_39, rfl, HA, HJ39, HB⟩ := hcut
                cases kq with
                | zero => exact absurd HA.out (by simp [octavolaw07_DateBack.j3])
                | succ kj39 =>
                  have H := HA.out
                  clear HA
                  simp only [octavolaw07_DateBack.j3] at H
                  by_cases c43 : x91_39 = true
                  · subst c43
                    have H1 : (some false) = some r := by rw [if_pos rfl] at H; exact H
                    clear H
                    have H := H1
                    clear H1
                    obtain rfl := Option.some.inj H
                    go_wp2
                    go_ret
                    exact ⟨by first | rfl | (simp [errW_none, errW_some] <;> rfl) | (simp [*, errW_none, errW_some] <;> rfl), by repeat (first | (with_reducible first | exact HB.out | apply below_alloc | apply pw_below_drewN | apply below_drew1) | exact HB.out)⟩
                  · replace c43 := Bool.eq_false_iff.mpr c43
                    subst c43
                    have H1 : ((date_Weekday.f (wrap64 ((wrap64 (1 + (wrap64 (Int.tmod a0 2958463)))) + 1))).bind fun t152 => ((date_Weekday.f (wrap64 (1 + (wrap64 (Int.tmod a0 2958463))))).bind fun t153 => (if t152 = (wrap64 ((Int.tmod t153 7) + 1)) then ((octavolaw07_lives.f kj39).bind fun t154 => (some t154)) else (some false)))) = some r := by rw [if_neg (show ¬ (false = true) by decide)] at H; exact H
                    clear H
                    have H := H1
                    clear H1
                    replace H := Option.bind_eq_some_iff.mp H
                    obtain ⟨t152, A440, H⟩ := H
                    replace H : ((date_Weekday.f (wrap64 (1 + (wrap64 (Int.tmod a0 2958463))))).bind fun t153 => (if t152 = (wrap64 ((Int.tmod t153 7) + 1)) then ((octavolaw07_lives.f kj39).bind fun t154 => (some t154)) else (some false))) = some r := H
                    have A44 := Aside0.mk A440
                    clear A440
                    replace H := Option.bind_eq_some_iff.mp H
                    obtain ⟨t153, A450, H⟩ := H
                    replace H : (if t152 = (wrap64 ((Int.tmod t153 7) + 1)) then ((octavolaw07_lives.f kj39).bind fun t154 => (some t154)) else (some false)) = some r := H
                    have A45 := Aside0.mk A450
                    clear A450
                    by_cases c46 : t152 = (wrap64 ((Int.tmod t153 7) + 1))
                    · rw [if_pos c46] at H
                      have c46b0 : (t152 == (wrap64 ((Int.tmod t153 7) + 1))) = true := beq_iff_eq.mpr c46
                      have c46b1 : (t152 != (wrap64 ((Int.tmod t153 7) + 1))) = false := bne_eq_false_iff_eq.mpr c46
                      clear c46
                      replace H := Option.bind_eq_some_iff.mp H
                      obtain ⟨t154, A470, H⟩ := H
                      replace H : (some t154) = some r := H
                      have A47 := Aside0.mk A470
                      clear A470
                      obtain rfl := Option.some.inj H
                      go_wp2_with (first | ((with_reducible refine gate_callee (f := 13) rfl ?_); refine goesL_ (some 130) rfl rfl Try.func13 (by kernel_rfl) rfl #[.int .i64 (wrap64 ((wrap64 (1 + (wrap64 (Int.tmod a0 2958463)))) + 1))] rfl (by (try simp only [List.map_toArray, List.map_cons, List.map_nil]); first | done | rfl | (simp only [List.length_drop, List.length_take]; rfl)) ?_; (with_reducible refine (date_Weekday.calls (wrap64 ((wrap64 (1 + (wrap64 (Int.tmod a0 2958463)))) + 1)) t152 _ A44.out).mono ?_); rintro e w' ⟨rfl, ⟨nd, rfl⟩⟩; refine ⟨_, rfl, ?_⟩) | ((with_reducible refine gate_callee (f := 13) rfl ?_); refine goesL_ (some 132) rfl rfl Try.func13 (by kernel_rfl) rfl #[.int .i64 (wrap64 (1 + (wrap64 (Int.tmod a0 2958463))))] rfl (by (try simp only [List.map_toArray, List.map_cons, List.map_nil]); first | done | rfl | (simp only [List.length_drop, List.length_take]; rfl)) ?_; (with_reducible refine (date_Weekday.calls (wrap64 (1 + (wrap64 (Int.tmod a0 2958463)))) t153 _ A45.out).mono ?_); rintro e w' ⟨rfl, ⟨nd, rfl⟩⟩; refine ⟨_, rfl, ?_⟩) | (go_at_call 14; (with_reducible refine (octavolaw07_lives.calls kj39  t154 _ A47.out).mono ?_); rintro e w48 ⟨rfl, hb⟩; have n0_ := Aside0.mk (below_step (by repeat (first | (with_reducible first | exact HB.out | apply below_alloc | apply pw_below_drewN | apply below_drew1) | exact HB.out)) hb); clear HB; have HB := n0_; clear n0_; (try clear hb); (try clear hb2); (try clear hk); (try clear hi)))
                      go_ret
                      exact ⟨by first | rfl | (simp [errW_none, errW_some] <;> rfl) | (simp [*, errW_none, errW_some] <;> rfl), by repeat (first | (with_reducible first | exact HB.out | apply below_alloc | apply pw_below_drewN | apply below_drew1) | exact HB.out)⟩
                    · rw [if_neg c46] at H
                      have c46b0 : (t152 == (wrap64 ((Int.tmod t153 7) + 1))) = false := beq_eq_false_iff_ne.mpr c46
                      have c46b1 : (t152 != (wrap64 ((Int.tmod t153 7) + 1))) = true := bne_iff_ne.mpr c46
                      obtain rfl := Option.some.inj H
                      go_wp2_with (first | ((with_reducible refine gate_callee (f := 13) rfl ?_); refine goesL_ (some 130) rfl rfl Try.func13 (by kernel_rfl) rfl #[.int .i64 (wrap64 ((wrap64 (1 + (wrap64 (Int.tmod a0 2958463)))) + 1))] rfl (by (try simp only [List.map_toArray, List.map_cons, List.map_nil]); first | done | rfl | (simp only [List.length_drop, List.length_take]; rfl)) ?_; (with_reducible refine (date_Weekday.calls (wrap64 ((wrap64 (1 + (wrap64 (Int.tmod a0 2958463)))) + 1)) t152 _ A44.out).mono ?_); rintro e w' ⟨rfl, ⟨nd, rfl⟩⟩; refine ⟨_, rfl, ?_⟩) | ((with_reducible refine gate_callee (f := 13) rfl ?_); refine goesL_ (some 132) rfl rfl Try.func13 (by kernel_rfl) rfl #[.int .i64 (wrap64 (1 + (wrap64 (Int.tmod a0 2958463))))] rfl (by (try simp only [List.map_toArray, List.map_cons, List.map_nil]); first | done | rfl | (simp only [List.length_drop, List.length_take]; rfl)) ?_; (with_reducible refine (date_Weekday.calls (wrap64 (1 + (wrap64 (Int.tmod a0 2958463)))) t153 _ A45.out).mono ?_); rintro e w' ⟨rfl, ⟨nd, rfl⟩⟩; refine ⟨_, rfl, ?_⟩))
                      go_ret
                      exact ⟨by first | rfl | (simp [errW_none, errW_some] <;> rfl) | (simp [*, errW_none, errW_some] <;> rfl), by repeat (first | (with_reducible first | exact HB.out | apply below_alloc | apply pw_below_drewN | apply below_drew1) | exact HB.out)⟩
        · replace c18 := Bool.eq_false_iff.mpr c18
          subst c18
          have H1 : (some false) = some r := by rw [if_neg (show ¬ (false = true) by decide)] at H; exact H
          clear H
          have H := H1
          clear H1
          obtain rfl := Option.some.inj H
          go_wp2_with (first | ((with_reducible refine gate_callee (f := 8) rfl ?_); refine goesL_ (some 73) rfl rfl Try.func8 (by kernel_rfl) rfl #[.int .i64 (wrap64 ((wrap64 (1 + (wrap64 (Int.tmod a0 2958463)))) + 1))] rfl (by (try simp only [List.map_toArray, List.map_cons, List.map_nil]); first | done | rfl | (simp only [List.length_drop, List.length_take]; rfl)) ?_; (with_reducible refine (date_Parts.calls kj5 (wrap64 ((wrap64 (1 + (wrap64 (Int.tmod a0 2958463)))) + 1)) t141 t142 t143 false _ A17.out).mono ?_); rintro e w' ⟨rfl, ⟨nd, rfl⟩⟩; refine ⟨_, rfl, ?_⟩))
          go_ret
          exact ⟨by first | rfl | (simp [errW_none, errW_some] <;> rfl) | (simp [*, errW_none, errW_some] <;> rfl), by repeat (first | (with_reducible first | exact HB.out | apply below_alloc | apply pw_below_drewN | apply below_drew1) | exact HB.out)⟩

/-- THE ONE PURE STATEMENT of octavolaw07_DateBack: yours. -/
def octavolaw07_DateBack.Pure : Prop := ∀ (a0 : Int), (Lit.int .u64 a0).wf = true → ∃ k, octavolaw07_DateBack.f k a0 = some true
theorem octavolaw07_DateBack.walk (P : octavolaw07_DateBack.Pure) (a0 : Int) (w : World) (w0 : (Lit.int .u64 a0).wf = true) :
    Calls Try.prog 3 #[.int .u64 a0] w fun e w' => e = .returned (.bool true) ∧ Below w.heap.size w w' := by
  obtain ⟨k, h⟩ := P a0 w0
  refine (octavolaw07_DateBack.calls k a0 true w h).mono ?_
  rintro e w' ⟨rfl, hd⟩
  exact ⟨rfl, hd⟩

end Go.Proofs.Ytemelfcpmbcnaaa.P
