-- Written by a program of this session (wip/tools/xprint.py), out of the seat's translation. Not trusted: Lean checks it.
import Derived.Test.YtbpckmbepgojfaaDoorPx0
import Derived.Test.YtbpckmbepgojfaaDoorPx2
namespace Go.Proofs.YtbpckmbepgojfaaDoor.P
open Go.RowKit Go.Proofs.YtbpckmbepgojfaaDoorW.PrintWords Go.Proofs.YtbpckmbepgojfaaDoorW.PrintLast Go.Proofs.YtbpckmbepgojfaaDoorW.PrintMore
attribute [local go_sem] max2_int min2_int max_two min_two max_three min_three max_four min_four X.binOp_str_gtr X.binOp_str_leq   -- for this text's walks alone
set_option linter.unusedVariables false
set_option linter.unusedSimpArgs false

/-! ### octavoref08_ParseCell: function 8 -/
mutual
def octavoref08_ParseCell.j0 : Nat → ByteArray → Bool → ByteArray → ByteArray → Int → Int → Bool → Bool → Option (ByteArray × ByteArray × Int × Int × Bool × Bool × Bool)
  | 0, _, _, _, _, _, _, _, _ => none
  | k + 1, x0, x13, x117000, x117001, x117002, x117003, x117004, x117005 => if x13 = true then (if 1 ≤ (x0.size : Int) then (octavoref08_ParseCell.j1 k (x0.extract 1 x0.size) x117000 x117001 x117002 x117003 x117004 true) else (none)) else (octavoref08_ParseCell.j1 k x0 x117000 x117001 x117002 x117003 x117004 x117005)
def octavoref08_ParseCell.j1 : Nat → ByteArray → ByteArray → ByteArray → Int → Int → Bool → Bool → Option (ByteArray × ByteArray × Int × Int × Bool × Bool × Bool)
  | 0, _, _, _, _, _, _, _ => none
  | k + 1, x0, x117000, x117001, x117002, x117003, x117004, x117005 => if (x0.size : Int) < 2 then (octavoref08_ParseCell.j2 k x0 true x117000 x117001 x117002 x117003 x117004 x117005) else (if 0 < (x0.size : Int) then ((octavoref08_Letter.f (bt x0 0)).bind fun t117 => (octavoref08_ParseCell.j2 k x0 (!t117) x117000 x117001 x117002 x117003 x117004 x117005)) else (none))
def octavoref08_ParseCell.j2 : Nat → ByteArray → Bool → ByteArray → ByteArray → Int → Int → Bool → Bool → Option (ByteArray × ByteArray × Int × Int × Bool × Bool × Bool)
  | 0, _, _, _, _, _, _, _, _ => none
  | k + 1, x0, x25, x117000, x117001, x117002, x117003, x117004, x117005 => if x25 = true then (some ((⟨#[]⟩ : ByteArray), (⟨#[]⟩ : ByteArray), 0, 0, false, false, false)) else (if 0 ≤ 1 then (if 1 ≤ (x0.size : Int) then ((octavoref06_Upper.f (x0.extract 0 1)).bind fun t118 => (if 0 < (t118.size : Int) then (if 0 < ((x0.extract 1 x0.size).size : Int) then (if (bt (x0.extract 1 x0.size) 0) = 36 then (if 1 ≤ ((x0.extract 1 x0.size).size : Int) then (octavoref08_ParseCell.j3 k ((x0.extract 1 x0.size).extract 1 (x0.extract 1 x0.size).size) x117000 x117001 x117002 ((((bt t118 0) - 65) % 256) + 1) true x117005) else (none)) else (octavoref08_ParseCell.j3 k (x0.extract 1 x0.size) x117000 x117001 x117002 ((((bt t118 0) - 65) % 256) + 1) x117004 x117005)) else (none)) else (none))) else (none)) else (none))
def octavoref08_ParseCell.j3 : Nat → ByteArray → ByteArray → ByteArray → Int → Int → Bool → Bool → Option (ByteArray × ByteArray × Int × Int × Bool × Bool × Bool)
  | 0, _, _, _, _, _, _, _ => none
  | k + 1, x0, x117000, x117001, x117002, x117003, x117004, x117005 => if (x0.size : Int) < 1 then (octavoref08_ParseCell.j4 k x0 true x117000 x117001 x117002 x117003 x117004 x117005) else (if (x0.size : Int) > 2 then (octavoref08_ParseCell.j4 k x0 true x117000 x117001 x117002 x117003 x117004 x117005) else (if 0 < (x0.size : Int) then (octavoref08_ParseCell.j4 k x0 ((bt x0 0) == 48) x117000 x117001 x117002 x117003 x117004 x117005) else (none)))
def octavoref08_ParseCell.j4 : Nat → ByteArray → Bool → ByteArray → ByteArray → Int → Int → Bool → Bool → Option (ByteArray × ByteArray × Int × Int × Bool × Bool × Bool)
  | 0, _, _, _, _, _, _, _, _ => none
  | k + 1, x0, x55, x117000, x117001, x117002, x117003, x117004, x117005 => if x55 = true then (some ((⟨#[]⟩ : ByteArray), (⟨#[]⟩ : ByteArray), 0, 0, false, false, false)) else (octavoref08_ParseCell.l0 k x0 0 x117000 x117001 x117002 x117003 x117004 x117005)
def octavoref08_ParseCell.l0 : Nat → ByteArray → Int → ByteArray → ByteArray → Int → Int → Bool → Bool → Option (ByteArray × ByteArray × Int × Int × Bool × Bool × Bool)
  | 0, _, _, _, _, _, _, _, _ => none
  | k + 1, x0, x5, x117000, x117001, x117002, x117003, x117004, x117005 => if x5 < (x0.size : Int) then (if 0 ≤ x5 then ((octavoref08_Digit.f (bt x0 x5)).bind fun t119 => (if t119 = true then (octavoref08_ParseCell.l0 k x0 (wrap64 (x5 + 1)) x117000 x117001 (wrap64 ((wrap64 (10 * x117002)) + (((bt x0 x5) - 48) % 256))) x117003 x117004 x117005) else (some ((⟨#[]⟩ : ByteArray), (⟨#[]⟩ : ByteArray), 0, 0, false, false, false)))) else (none)) else ((octavoref08_in.f x117002 x117003).bind fun t120 => (if t120 = true then (some (x117000, x117001, x117002, x117003, x117004, x117005, true)) else (some ((⟨#[]⟩ : ByteArray), (⟨#[]⟩ : ByteArray), 0, 0, false, false, false))))
end
def octavoref08_ParseCell.f (k : Nat) (a0 : ByteArray) : Option (ByteArray × ByteArray × Int × Int × Bool × Bool × Bool) := if (a0.size : Int) > 0 then (if 0 < (a0.size : Int) then (octavoref08_ParseCell.j0 k a0 ((bt a0 0) == 36) (⟨#[]⟩ : ByteArray) (⟨#[]⟩ : ByteArray) 0 0 false false) else (none)) else (octavoref08_ParseCell.j0 k a0 false (⟨#[]⟩ : ByteArray) (⟨#[]⟩ : ByteArray) 0 0 false false)
theorem octavoref08_ParseCell.mono_l : ∀ k, (∀ y0 y1 y2 y3 y4 y5 y6 y7, LeO (octavoref08_ParseCell.j0 k y0 y1 y2 y3 y4 y5 y6 y7) (octavoref08_ParseCell.j0 (k + 1) y0 y1 y2 y3 y4 y5 y6 y7)) ∧ (∀ y0 y1 y2 y3 y4 y5 y6, LeO (octavoref08_ParseCell.j1 k y0 y1 y2 y3 y4 y5 y6) (octavoref08_ParseCell.j1 (k + 1) y0 y1 y2 y3 y4 y5 y6)) ∧ (∀ y0 y1 y2 y3 y4 y5 y6 y7, LeO (octavoref08_ParseCell.j2 k y0 y1 y2 y3 y4 y5 y6 y7) (octavoref08_ParseCell.j2 (k + 1) y0 y1 y2 y3 y4 y5 y6 y7)) ∧ (∀ y0 y1 y2 y3 y4 y5 y6, LeO (octavoref08_ParseCell.j3 k y0 y1 y2 y3 y4 y5 y6) (octavoref08_ParseCell.j3 (k + 1) y0 y1 y2 y3 y4 y5 y6)) ∧ (∀ y0 y1 y2 y3 y4 y5 y6 y7, LeO (octavoref08_ParseCell.j4 k y0 y1 y2 y3 y4 y5 y6 y7) (octavoref08_ParseCell.j4 (k + 1) y0 y1 y2 y3 y4 y5 y6 y7)) ∧ (∀ y0 y1 y2 y3 y4 y5 y6 y7, LeO (octavoref08_ParseCell.l0 k y0 y1 y2 y3 y4 y5 y6 y7) (octavoref08_ParseCell.l0 (k + 1) y0 y1 y2 y3 y4 y5 y6 y7))
  | 0 => ⟨fun _ _ _ _ _ _ _ _ r h => by simp [octavoref08_ParseCell.j0] at h, fun _ _ _ _ _ _ _ r h => by simp [octavoref08_ParseCell.j1] at h, fun _ _ _ _ _ _ _ _ r h => by simp [octavoref08_ParseCell.j2] at h, fun _ _ _ _ _ _ _ r h => by simp [octavoref08_ParseCell.j3] at h, fun _ _ _ _ _ _ _ _ r h => by simp [octavoref08_ParseCell.j4] at h, fun _ _ _ _ _ _ _ _ r h => by simp [octavoref08_ParseCell.l0] at h⟩
  | k + 1 => by
    obtain ⟨ih0, ih1, ih2, ih3, ih4, ih5⟩ := octavoref08_ParseCell.mono_l k
    refine ⟨?_, ?_, ?_, ?_, ?_, ?_⟩
    · intro y0 y1 y2 y3 y4 y5 y6 y7
      unfold octavoref08_ParseCell.j0
      repeat' first
      | (with_reducible exact ih0 _ _ _ _ _ _ _ _)
      | (with_reducible exact ih1 _ _ _ _ _ _ _)
      | (with_reducible exact ih2 _ _ _ _ _ _ _ _)
      | (with_reducible exact ih3 _ _ _ _ _ _ _)
      | (with_reducible exact ih4 _ _ _ _ _ _ _ _)
      | (with_reducible exact ih5 _ _ _ _ _ _ _ _)
      | (with_reducible exact LeO.refl _)
      | (with_reducible exact LeO.none _)
      | (with_reducible refine LeO.ite ?_ ?_)
      | (with_reducible refine LeO.bind ?_ (fun _ => ?_))
      | exact ih0 _ _ _ _ _ _ _ _
      | exact ih1 _ _ _ _ _ _ _
      | exact ih2 _ _ _ _ _ _ _ _
      | exact ih3 _ _ _ _ _ _ _
      | exact ih4 _ _ _ _ _ _ _ _
      | exact ih5 _ _ _ _ _ _ _ _
      | exact LeO.none _
      | refine LeO.ite ?_ ?_
      | refine LeO.bind ?_ (fun _ => ?_)
    · intro y0 y1 y2 y3 y4 y5 y6
      unfold octavoref08_ParseCell.j1
      repeat' first
      | (with_reducible exact ih0 _ _ _ _ _ _ _ _)
      | (with_reducible exact ih1 _ _ _ _ _ _ _)
      | (with_reducible exact ih2 _ _ _ _ _ _ _ _)
      | (with_reducible exact ih3 _ _ _ _ _ _ _)
      | (with_reducible exact ih4 _ _ _ _ _ _ _ _)
      | (with_reducible exact ih5 _ _ _ _ _ _ _ _)
      | (with_reducible exact LeO.refl _)
      | (with_reducible exact LeO.none _)
      | (with_reducible refine LeO.ite ?_ ?_)
      | (with_reducible refine LeO.bind ?_ (fun _ => ?_))
      | exact ih0 _ _ _ _ _ _ _ _
      | exact ih1 _ _ _ _ _ _ _
      | exact ih2 _ _ _ _ _ _ _ _
      | exact ih3 _ _ _ _ _ _ _
      | exact ih4 _ _ _ _ _ _ _ _
      | exact ih5 _ _ _ _ _ _ _ _
      | exact LeO.none _
      | refine LeO.ite ?_ ?_
      | refine LeO.bind ?_ (fun _ => ?_)
    · intro y0 y1 y2 y3 y4 y5 y6 y7
      unfold octavoref08_ParseCell.j2
      repeat' first
      | (with_reducible exact ih0 _ _ _ _ _ _ _ _)
      | (with_reducible exact ih1 _ _ _ _ _ _ _)
      | (with_reducible exact ih2 _ _ _ _ _ _ _ _)
      | (with_reducible exact ih3 _ _ _ _ _ _ _)
      | (with_reducible exact ih4 _ _ _ _ _ _ _ _)
      | (with_reducible exact ih5 _ _ _ _ _ _ _ _)
      | (with_reducible exact LeO.refl _)
      | (with_reducible exact LeO.none _)
      | (with_reducible refine LeO.ite ?_ ?_)
      | (with_reducible refine LeO.bind ?_ (fun _ => ?_))
      | exact ih0 _ _ _ _ _ _ _ _
      | exact ih1 _ _ _ _ _ _ _
      | exact ih2 _ _ _ _ _ _ _ _
      | exact ih3 _ _ _ _ _ _ _
      | exact ih4 _ _ _ _ _ _ _ _
      | exact ih5 _ _ _ _ _ _ _ _
      | exact LeO.none _
      | refine LeO.ite ?_ ?_
      | refine LeO.bind ?_ (fun _ => ?_)
    · intro y0 y1 y2 y3 y4 y5 y6
      unfold octavoref08_ParseCell.j3
      repeat' first
      | (with_reducible exact ih0 _ _ _ _ _ _ _ _)
      | (with_reducible exact ih1 _ _ _ _ _ _ _)
      | (with_reducible exact ih2 _ _ _ _ _ _ _ _)
      | (with_reducible exact ih3 _ _ _ _ _ _ _)
      | (with_reducible exact ih4 _ _ _ _ _ _ _ _)
      | (with_reducible exact ih5 _ _ _ _ _ _ _ _)
      | (with_reducible exact LeO.refl _)
      | (with_reducible exact LeO.none _)
      | (with_reducible refine LeO.ite ?_ ?_)
      | (with_reducible refine LeO.bind ?_ (fun _ => ?_))
      | exact ih0 _ _ _ _ _ _ _ _
      | exact ih1 _ _ _ _ _ _ _
      | exact ih2 _ _ _ _ _ _ _ _
      | exact ih3 _ _ _ _ _ _ _
      | exact ih4 _ _ _ _ _ _ _ _
      | exact ih5 _ _ _ _ _ _ _ _
      | exact LeO.none _
      | refine LeO.ite ?_ ?_
      | refine LeO.bind ?_ (fun _ => ?_)
    · intro y0 y1 y2 y3 y4 y5 y6 y7
      unfold octavoref08_ParseCell.j4
      repeat' first
      | (with_reducible exact ih0 _ _ _ _ _ _ _ _)
      | (with_reducible exact ih1 _ _ _ _ _ _ _)
      | (with_reducible exact ih2 _ _ _ _ _ _ _ _)
      | (with_reducible exact ih3 _ _ _ _ _ _ _)
      | (with_reducible exact ih4 _ _ _ _ _ _ _ _)
      | (with_reducible exact ih5 _ _ _ _ _ _ _ _)
      | (with_reducible exact LeO.refl _)
      | (with_reducible exact LeO.none _)
      | (with_reducible refine LeO.ite ?_ ?_)
      | (with_reducible refine LeO.bind ?_ (fun _ => ?_))
      | exact ih0 _ _ _ _ _ _ _ _
      | exact ih1 _ _ _ _ _ _ _
      | exact ih2 _ _ _ _ _ _ _ _
      | exact ih3 _ _ _ _ _ _ _
      | exact ih4 _ _ _ _ _ _ _ _
      | exact ih5 _ _ _ _ _ _ _ _
      | exact LeO.none _
      | refine LeO.ite ?_ ?_
      | refine LeO.bind ?_ (fun _ => ?_)
    · intro y0 y1 y2 y3 y4 y5 y6 y7
      unfold octavoref08_ParseCell.l0
      repeat' first
      | (with_reducible exact ih0 _ _ _ _ _ _ _ _)
      | (with_reducible exact ih1 _ _ _ _ _ _ _)
      | (with_reducible exact ih2 _ _ _ _ _ _ _ _)
      | (with_reducible exact ih3 _ _ _ _ _ _ _)
      | (with_reducible exact ih4 _ _ _ _ _ _ _ _)
      | (with_reducible exact ih5 _ _ _ _ _ _ _ _)
      | (with_reducible exact LeO.refl _)
      | (with_reducible exact LeO.none _)
      | (with_reducible refine LeO.ite ?_ ?_)
      | (with_reducible refine LeO.bind ?_ (fun _ => ?_))
      | exact ih0 _ _ _ _ _ _ _ _
      | exact ih1 _ _ _ _ _ _ _
      | exact ih2 _ _ _ _ _ _ _ _
      | exact ih3 _ _ _ _ _ _ _
      | exact ih4 _ _ _ _ _ _ _ _
      | exact ih5 _ _ _ _ _ _ _ _
      | exact LeO.none _
      | refine LeO.ite ?_ ?_
      | refine LeO.bind ?_ (fun _ => ?_)
theorem octavoref08_ParseCell.mono : ∀ a0 k, LeO (octavoref08_ParseCell.f k a0) (octavoref08_ParseCell.f (k + 1) a0) := by
  intro a0 k
  obtain ⟨ih0, ih1, ih2, ih3, ih4, ih5⟩ := octavoref08_ParseCell.mono_l k
  unfold octavoref08_ParseCell.f
  repeat' first
      | (with_reducible exact ih0 _ _ _ _ _ _ _ _)
      | (with_reducible exact ih1 _ _ _ _ _ _ _)
      | (with_reducible exact ih2 _ _ _ _ _ _ _ _)
      | (with_reducible exact ih3 _ _ _ _ _ _ _)
      | (with_reducible exact ih4 _ _ _ _ _ _ _ _)
      | (with_reducible exact ih5 _ _ _ _ _ _ _ _)
      | (with_reducible exact LeO.refl _)
      | (with_reducible exact LeO.none _)
      | (with_reducible refine LeO.ite ?_ ?_)
      | (with_reducible refine LeO.bind ?_ (fun _ => ?_))
      | exact ih0 _ _ _ _ _ _ _ _
      | exact ih1 _ _ _ _ _ _ _
      | exact ih2 _ _ _ _ _ _ _ _
      | exact ih3 _ _ _ _ _ _ _
      | exact ih4 _ _ _ _ _ _ _ _
      | exact ih5 _ _ _ _ _ _ _ _
      | exact LeO.none _
      | refine LeO.ite ?_ ?_
      | refine LeO.bind ?_ (fun _ => ?_)
def octavoref08_ParseCell.T19 : Bool × List (List Nat × List Nat) := (true, [([], []), ([0], [0]), ([1], [1]), ([], []), ([], []), ([3, 4], [3, 4]), ([5], [5]), ([6], [6]), ([2, 7], [2, 7]), ([0, 1, 2, 3, 4, 5, 6, 7, 8], []), ([9, 8, 0, 1, 2, 3, 4, 5, 6, 7, 8], [8, 9])])
def octavoref08_ParseCell.B19 : List Nat := [0, 1, 3, 0, 0, 24, 56, 120, 255, 511, 1023]
theorem octavoref08_ParseCell.tab19 : rtab .any (opsOf Tryd.f8 19) = octavoref08_ParseCell.T19 := by kernel_rfl
theorem octavoref08_ParseCell.bits19 : waitsOk octavoref08_ParseCell.T19.2 octavoref08_ParseCell.B19 = true := by kernel_rfl
attribute [-simp] ByteArray.size_extract in
set_option maxHeartbeats 8000000 in
set_option maxRecDepth 100000 in
theorem octavoref08_ParseCell.calls (k : Nat) (a0 : ByteArray) (r1 : ByteArray) (r2 : ByteArray) (r3 : Int) (r4 : Int) (r5 : Bool) (r6 : Bool) (r7 : Bool) (w : World) (h : octavoref08_ParseCell.f k a0 = some (r1, r2, r3, r4, r5, r6, r7)) :
    Calls Tryd.prog 8 #[.string a0] w fun e w' => e = .returned (.tuple #[.agg #[.string r1, .string r2, .int .i64 r3, .int .i64 r4, .bool r5, .bool r6], .bool r7]) ∧ Below w.heap.size w w' := by
  have hu23 := Tryd.underlying23
  have HB := Aside0.mk (Below.refl w.heap.size w)
  have H : (if (a0.size : Int) > 0 then (if 0 < (a0.size : Int) then (octavoref08_ParseCell.j0 k a0 ((bt a0 0) == 36) (⟨#[]⟩ : ByteArray) (⟨#[]⟩ : ByteArray) 0 0 false false) else (none)) else (octavoref08_ParseCell.j0 k a0 false (⟨#[]⟩ : ByteArray) (⟨#[]⟩ : ByteArray) 0 0 false false)) = some (r1, r2, r3, r4, r5, r6, r7) := h
  clear h
  have HC2 := Aside0.mk H
  clear H
  go_enter Tryd.func8, Tryd.ntmps8
  go_upto_region 2 with (first | ((with_reducible refine gate_dst (N := 2) rfl ?_); (try (refine gate_guard (by rfl) ?_; dsimp only)); refine box_event ?hg (N := 2) ?hd (cs := #[.string (⟨#[]⟩ : ByteArray), .string (⟨#[]⟩ : ByteArray), .int .i64 0, .int .i64 0, .bool false, .bool false]) (t := 23) ?hr ?_; (case hd => rfl); (case hg => rfl); (case hr => first | (go_simp; done) | (go_simp; rfl)); intro gb115 hg w3 hbox hb; have n0_ := Aside0.mk (below_step (by (repeat (first | (with_reducible first | exact HB.out | apply below_alloc | apply pw_below_drewN | apply below_drew1) | exact HB.out))) hb); have n1_ := Aside0.mk (hbox); have n2_ := Aside0.mk ((by rw [hg]; exact (below_size (by (repeat (first | (with_reducible first | exact HB.out | apply below_alloc | apply pw_below_drewN | apply below_drew1) | exact HB.out)))) : w.heap.size ≤ gb115)); have n3_ := Aside0.mk ((by rw [hg]; exact (below_size (by (repeat (first | (with_reducible first | exact HB.out | apply below_alloc | apply pw_below_drewN | apply below_drew1) | exact HB.out)))) : w.heap.size ≤ gb115)); clear HB; have HB := n0_; have BK115 := n1_; have GW115 := n2_; have GE115 := n3_; clear n0_ n1_ n2_ n3_; clear hb hbox hg) | ((with_reducible refine gate_dst (N := 4) rfl ?_); (try (refine gate_guard (by rfl) ?_; dsimp only)); refine box_event ?hg (N := 4) ?hd (cs := #[.string (⟨#[]⟩ : ByteArray), .string (⟨#[]⟩ : ByteArray), .int .i64 0, .int .i64 0, .bool false, .bool false]) (t := 23) ?hr ?_; (case hd => rfl); (case hg => rfl); (case hr => first | (go_simp; done) | (go_simp; rfl)); intro gb116 hg w4 hbox hb; have n0_ := Aside0.mk (blk_below (g := gb115) (o := .cells #[.string (⟨#[]⟩ : ByteArray), .string (⟨#[]⟩ : ByteArray), .int .i64 0, .int .i64 0, .bool false, .bool false] 23 (0, 0)) (by (with_reducible repeat (first | refine blk_drewN ?_ _ | refine blk_drew ?_ | refine blk_alloc ?_ _)); exact BK115.out) hb); have n1_ := Aside0.mk (below_step (by (repeat (first | (with_reducible first | exact HB.out | apply below_alloc | apply pw_below_drewN | apply below_drew1 | refine below_set ?_ GE115.out) | exact HB.out))) hb); have n2_ := Aside0.mk (hbox); have n3_ := Aside0.mk ((by rw [hg]; exact (below_size (by (repeat (first | (with_reducible first | exact HB.out | apply below_alloc | apply pw_below_drewN | apply below_drew1 | refine below_set ?_ GE115.out) | exact HB.out)))) : w.heap.size ≤ gb116)); have n4_ := Aside0.mk ((by rw [hg]; exact (below_size (by (repeat (first | (with_reducible first | exact HB.out | apply below_alloc | apply pw_below_drewN | apply below_drew1 | refine below_set ?_ GE115.out) | exact HB.out)))) : w.heap.size ≤ gb116)); have n5_ := Aside0.mk ((by rw [hg]; exact Nat.ne_of_lt (blk_lt (g := gb115) (o := .cells #[.string (⟨#[]⟩ : ByteArray), .string (⟨#[]⟩ : ByteArray), .int .i64 0, .int .i64 0, .bool false, .bool false] 23 (0, 0)) (by (with_reducible repeat (first | refine blk_drewN ?_ _ | refine blk_drew ?_ | refine blk_alloc ?_ _)); exact BK115.out)) : gb115 ≠ gb116)); have n6_ := Aside0.mk ((by rw [hg]; exact Nat.ne_of_gt (blk_lt (g := gb115) (o := .cells #[.string (⟨#[]⟩ : ByteArray), .string (⟨#[]⟩ : ByteArray), .int .i64 0, .int .i64 0, .bool false, .bool false] 23 (0, 0)) (by (with_reducible repeat (first | refine blk_drewN ?_ _ | refine blk_drew ?_ | refine blk_alloc ?_ _)); exact BK115.out)) : gb116 ≠ gb115)); clear BK115; clear HB; have BK115 := n0_; have HB := n1_; have BK116 := n2_; have GW116 := n3_; have GE116 := n4_; have NB115_116 := n5_; have NB116_115 := n6_; clear n0_ n1_ n2_ n3_ n4_ n5_ n6_; clear hb hbox hg))
  (try simp only [Act.put, List.setIfInBounds_toArray, List.set_cons_zero, List.set_cons_succ])
  go_cut [13] (fun v13 wc => ∃ (kq : Nat) (x13_1 : Bool), v13 = .bool x13_1 ∧ Aside0 (octavoref08_ParseCell.j0 kq a0 x13_1 (⟨#[]⟩ : ByteArray) (⟨#[]⟩ : ByteArray) 0 0 false false = some (r1, r2, r3, r4, r5, r6, r7)) ∧ Aside0 (kq ≤ k) ∧ Aside0 (wc.heap[gb115]? = some (.cells #[.string (⟨#[]⟩ : ByteArray), .string (⟨#[]⟩ : ByteArray), .int .i64 0, .int .i64 0, .bool false, .bool false] 23 (0, 0))) ∧ Aside0 (wc.heap[gb116]? = some (.cells #[.string (⟨#[]⟩ : ByteArray), .string (⟨#[]⟩ : ByteArray), .int .i64 0, .int .i64 0, .bool false, .bool false] 23 (0, 0))) ∧ Aside0 (Below w.heap.size w wc))
  case first =>
    have H := HC2.out
    clear HC2
    by_cases c5 : (a0.size : Int) > 0
    · rw [if_pos c5] at H
      have c5b0 : decide (0 < (a0.size : Int)) = true := decide_eq_true c5
      have c5b1 : decide (0 < a0.size) = true := decide_eq_true (by omega)
      clear c5
      (first | rw [c5b0] | (simp only [i64_w, i32_w]; rw [c5b0]) | skip)
      by_cases c6 : 0 < (a0.size : Int)
      · rw [if_pos c6] at H
        have c6b0 : decide (0 < (a0.size : Int)) = true := decide_eq_true c6
        have c6b1 : decide (0 < a0.size) = true := decide_eq_true (by omega)
        clear c6
        have H' := Aside0.mk H
        clear H
        have p7 : 0 ≤ (0 : Int) := (by omega)
        have q7 : 0 < a0.size := (by have : (0 : Int) < (a0.size : Int) := (of_decide_eq_true (by first | (with_reducible assumption) | assumption)); omega)
        have hx7 : ∀ h : 0 < a0.size, ((a0[0]'h).toNat : Int) = bt a0 0 := bt_at a0 0
        clear p7
        have qi7 : (0 < (a0.size : Int)) = True := eq_true ((of_decide_eq_true (by first | (with_reducible assumption) | assumption)))
        replace q7 := eq_true q7
        go_wp2
        go_meet
        case rel => exact ⟨_, (((bt a0 0) == 36)), (by first | rfl | (simp; done) | (simp [*]; done) | (simp [Go.Proofs.YtbpckmbepgojfaaDoor.X.bne_nil]; done)), H', ⟨by first | omega | exact Nat.le_refl _⟩, ⟨by (with_reducible repeat (first | refine blk_drewN ?_ _ | refine blk_drew ?_ | refine blk_alloc ?_ _)); exact BK115.out⟩, ⟨by (with_reducible repeat (first | refine blk_drewN ?_ _ | refine blk_drew ?_ | refine blk_alloc ?_ _)); exact BK116.out⟩, ⟨by (repeat (first | (with_reducible first | exact HB.out | apply below_alloc | apply pw_below_drewN | apply below_drew1 | refine below_set ?_ GE115.out | refine below_set ?_ GE116.out) | exact HB.out))⟩⟩
      · rw [if_neg c6] at H
        exact absurd H (by simp)
    · rw [if_neg c5] at H
      have c5b0 : decide (0 < (a0.size : Int)) = false := decide_eq_false c5
      have c5b1 : decide (0 < a0.size) = false := decide_eq_false (by omega)
      clear c5
      (first | rw [c5b0] | (simp only [i64_w, i32_w]; rw [c5b0]) | skip)
      have H' := Aside0.mk H
      clear H
      go_wp2
      go_meet
      case rel => exact ⟨_, (false), (by first | rfl | (simp; done) | (simp [*]; done) | (simp [Go.Proofs.YtbpckmbepgojfaaDoor.X.bne_nil]; done)), H', ⟨by first | omega | exact Nat.le_refl _⟩, ⟨by (with_reducible repeat (first | refine blk_drewN ?_ _ | refine blk_drew ?_ | refine blk_alloc ?_ _)); exact BK115.out⟩, ⟨by (with_reducible repeat (first | refine blk_drewN ?_ _ | refine blk_drew ?_ | refine blk_alloc ?_ _)); exact BK116.out⟩, ⟨by (repeat (first | (with_reducible first | exact HB.out | apply below_alloc | apply pw_below_drewN | apply below_drew1 | refine below_set ?_ GE115.out | refine below_set ?_ GE116.out) | exact HB.out))⟩⟩
  case rest =>
    clear HC2
    try clear p2
    try clear c5
    try clear c5b0
    try clear c5b1
    try clear c6
    try clear c6b0
    try clear c6b1
    try clear p7
    try clear q7
    try clear hx7
    try clear qi7
    try clear p7
    try clear q7
    obtain ⟨kq, x13_1, rfl, HA, HJ1, BK115, BK116, HB⟩ := hcut
    cases kq with
    | zero => exact absurd HA.out (by simp [octavoref08_ParseCell.j0])
    | succ kj1 =>
      have H := HA.out
      clear HA
      simp only [octavoref08_ParseCell.j0] at H
      have HC8 := Aside0.mk H
      clear H
      go_upto_if 13 with (fail)
      go_cut [0] (fun v0 wc => ∃ (kq : Nat) (x0_7 : ByteArray) (x117005_7 : Bool), v0 = .string x0_7 ∧ Aside0 (octavoref08_ParseCell.j1 kq x0_7 (⟨#[]⟩ : ByteArray) (⟨#[]⟩ : ByteArray) 0 0 false x117005_7 = some (r1, r2, r3, r4, r5, r6, r7)) ∧ Aside0 (kq ≤ kj1) ∧ Aside0 (wc.heap[gb115]? = some (.cells #[.string (⟨#[]⟩ : ByteArray), .string (⟨#[]⟩ : ByteArray), .int .i64 0, .int .i64 0, .bool false, .bool false] 23 (0, 0))) ∧ Aside0 (wc.heap[gb116]? = some (.cells #[.string (⟨#[]⟩ : ByteArray), .string (⟨#[]⟩ : ByteArray), .int .i64 0, .int .i64 0, .bool false, .bool x117005_7] 23 (0, 0))) ∧ Aside0 (Below w.heap.size w wc))
      case first =>
        have H := HC8.out
        clear HC8
        by_cases c9 : x13_1 = true
        · subst c9
          have H1 : (if 1 ≤ (a0.size : Int) then (octavoref08_ParseCell.j1 kj1 (a0.extract 1 a0.size) (⟨#[]⟩ : ByteArray) (⟨#[]⟩ : ByteArray) 0 0 false true) else (none)) = some (r1, r2, r3, r4, r5, r6, r7) := by rw [if_pos rfl] at H; exact H
          clear H
          have H := H1
          clear H1
          by_cases c10 : 1 ≤ (a0.size : Int)
          · rw [if_pos c10] at H
            have c10b0 := eq_true c10
            have c10b1 : decide (1 ≤ (a0.size : Int)) = true := decide_eq_true c10
            clear c10
            have H' := Aside0.mk H
            clear H
            have hnb11 := NB116_115.out
            have hnc11 := NB115_116.out
            have hcz12_0 : wc.cell? ⟨gb116, 0, none⟩ = some (.string (⟨#[]⟩ : ByteArray)) := (blk_cell BK116.out 0).trans rfl
            have hcz12_1 : wc.cell? ⟨gb116, 1, none⟩ = some (.string (⟨#[]⟩ : ByteArray)) := (blk_cell BK116.out 1).trans rfl
            have hcz12_2 : wc.cell? ⟨gb116, 2, none⟩ = some (.int .i64 0) := (blk_cell BK116.out 2).trans rfl
            have hcz12_3 : wc.cell? ⟨gb116, 3, none⟩ = some (.int .i64 0) := (blk_cell BK116.out 3).trans rfl
            have hcz12_4 : wc.cell? ⟨gb116, 4, none⟩ = some (.bool false) := (blk_cell BK116.out 4).trans rfl
            have hcz12_5 : wc.cell? ⟨gb116, 5, none⟩ = some (.bool false) := (blk_cell BK116.out 5).trans rfl
            have hfz12_0 := blk_frozen BK116.out 0
            have hfz12_1 := blk_frozen BK116.out 1
            have hfz12_2 := blk_frozen BK116.out 2
            have hfz12_3 := blk_frozen BK116.out 3
            have hfz12_4 := blk_frozen BK116.out 4
            have hfz12_5 := blk_frozen BK116.out 5
            go_wp2
            go_meet
            case rel => exact ⟨_, (a0.extract 1 a0.size), (true), (by first | rfl | (simp; done) | (simp [*]; done) | (simp [Go.Proofs.YtbpckmbepgojfaaDoor.X.bne_nil]; done)), H', ⟨by have := HJ1.out; first | omega | exact Nat.le_refl _⟩, ⟨by (with_reducible repeat (first | refine blk_drewN ?_ _ | refine blk_drew ?_ | refine blk_alloc ?_ _)); refine blk_far ?_ NB115_116.out _; (with_reducible repeat (first | refine blk_drewN ?_ _ | refine blk_drew ?_ | refine blk_alloc ?_ _)); exact BK115.out⟩, ⟨by (with_reducible repeat (first | refine blk_drewN ?_ _ | refine blk_drew ?_ | refine blk_alloc ?_ _)); refine blk_put (cs := #[.string (⟨#[]⟩ : ByteArray), .string (⟨#[]⟩ : ByteArray), .int .i64 0, .int .i64 0, .bool false, .bool false]) ?_ 5 _ rfl; (with_reducible repeat (first | refine blk_drewN ?_ _ | refine blk_drew ?_ | refine blk_alloc ?_ _)); exact BK116.out⟩, ⟨by (repeat (first | (with_reducible first | exact HB.out | apply below_alloc | apply pw_below_drewN | apply below_drew1 | refine below_set ?_ GE115.out | refine below_set ?_ GE116.out) | exact HB.out))⟩⟩
          · rw [if_neg c10] at H
            exact absurd H (by simp)
        · replace c9 := Bool.eq_false_iff.mpr c9
          subst c9
          have H1 : (octavoref08_ParseCell.j1 kj1 a0 (⟨#[]⟩ : ByteArray) (⟨#[]⟩ : ByteArray) 0 0 false false) = some (r1, r2, r3, r4, r5, r6, r7) := by rw [if_neg (show ¬ (false = true) by decide)] at H; exact H
          clear H
          have H := H1
          clear H1
          have H' := Aside0.mk H
          clear H
          go_wp2
          go_meet
          case rel => exact ⟨_, (a0), (false), (by first | rfl | (simp; done) | (simp [*]; done) | (simp [Go.Proofs.YtbpckmbepgojfaaDoor.X.bne_nil]; done)), H', ⟨by have := HJ1.out; first | omega | exact Nat.le_refl _⟩, ⟨by (with_reducible repeat (first | refine blk_drewN ?_ _ | refine blk_drew ?_ | refine blk_alloc ?_ _)); exact BK115.out⟩, ⟨by (with_reducible repeat (first | refine blk_drewN ?_ _ | refine blk_drew ?_ | refine blk_alloc ?_ _)); exact BK116.out⟩, ⟨by (repeat (first | (with_reducible first | exact HB.out | apply below_alloc | apply pw_below_drewN | apply below_drew1 | refine below_set ?_ GE115.out | refine below_set ?_ GE116.out) | exact HB.out))⟩⟩
      case rest =>
        clear HC8
        try clear c1
        try clear p2
        try clear c5
        try clear c5b0
        try clear c5b1
        try clear c6
        try clear c6b0
        try clear c6b1
        try clear p7
        try clear q7
        try clear hx7
        try clear qi7
        try clear c8
        try clear c9
        try clear c10
        try clear c10b0
        try clear c10b1
        try clear c11
        try clear hcz12_0
        try clear hcz12_1
        try clear hcz12_2
        try clear hcz12_3
        try clear hcz12_4
        try clear hcz12_5
        try clear hfz12_0
        try clear hfz12_1
        try clear hfz12_2
        try clear hfz12_3
        try clear hfz12_4
        try clear hfz12_5
        try clear p2
        try clear p7
        try clear q7
        obtain ⟨kq, x0_7, x117005_7, rfl, HA, HJ7, BK115, BK116, HB⟩ := hcut
        cases kq with
        | zero => exact absurd HA.out (by simp [octavoref08_ParseCell.j1])
        | succ kj7 =>
          have H := HA.out
          clear HA
          simp only [octavoref08_ParseCell.j1] at H
          have HC13 := Aside0.mk H
          clear H
          go_upto_region 5 with (fail)
          go_cut [25] (fun v25 wc => ∃ (kq : Nat) (x25_12 : Bool), v25 = .bool x25_12 ∧ Aside0 (octavoref08_ParseCell.j2 kq x0_7 x25_12 (⟨#[]⟩ : ByteArray) (⟨#[]⟩ : ByteArray) 0 0 false x117005_7 = some (r1, r2, r3, r4, r5, r6, r7)) ∧ Aside0 (kq ≤ kj7) ∧ Aside0 (wc.heap[gb115]? = some (.cells #[.string (⟨#[]⟩ : ByteArray), .string (⟨#[]⟩ : ByteArray), .int .i64 0, .int .i64 0, .bool false, .bool false] 23 (0, 0))) ∧ Aside0 (wc.heap[gb116]? = some (.cells #[.string (⟨#[]⟩ : ByteArray), .string (⟨#[]⟩ : ByteArray), .int .i64 0, .int .i64 0, .bool false, .bool x117005_7] 23 (0, 0))) ∧ Aside0 (Below w.heap.size w wc))
          case first =>
            have H := HC13.out
            clear HC13
            by_cases c14 : (x0_7.size : Int) < 2
            · rw [if_pos c14] at H
              have c14b0 : decide ((x0_7.size : Int) < 2) = true := decide_eq_true c14
              have c14b1 : decide (x0_7.size < 2) = true := decide_eq_true (by omega)
              clear c14
              (first | rw [c14b0] | (simp only [i64_w, i32_w]; rw [c14b0]) | skip)
              have H' := Aside0.mk H
              clear H
              go_wp2
              go_meet
              case rel => exact ⟨_, (true), (by first | rfl | (simp; done) | (simp [*]; done) | (simp [Go.Proofs.YtbpckmbepgojfaaDoor.X.bne_nil]; done)), H', ⟨by have := HJ1.out; have := HJ7.out; first | omega | exact Nat.le_refl _⟩, ⟨by (with_reducible repeat (first | refine blk_drewN ?_ _ | refine blk_drew ?_ | refine blk_alloc ?_ _)); exact BK115.out⟩, ⟨by (with_reducible repeat (first | refine blk_drewN ?_ _ | refine blk_drew ?_ | refine blk_alloc ?_ _)); exact BK116.out⟩, ⟨by (repeat (first | (with_reducible first | exact HB.out | apply below_alloc | apply pw_below_drewN | apply below_drew1 | refine below_set ?_ GE115.out | refine below_set ?_ GE116.out) | exact HB.out))⟩⟩
            · rw [if_neg c14] at H
              have c14b0 : decide ((x0_7.size : Int) < 2) = false := decide_eq_false c14
              have c14b1 : decide (x0_7.size < 2) = false := decide_eq_false (by omega)
              clear c14
              (first | rw [c14b0] | (simp only [i64_w, i32_w]; rw [c14b0]) | skip)
              by_cases c15 : 0 < (x0_7.size : Int)
              · rw [if_pos c15] at H
                have c15b0 : decide (0 < (x0_7.size : Int)) = true := decide_eq_true c15
                have c15b1 : decide (0 < x0_7.size) = true := decide_eq_true (by omega)
                clear c15
                replace H := Option.bind_eq_some_iff.mp H
                obtain ⟨t117, A170, H⟩ := H
                replace H : (octavoref08_ParseCell.j2 kj7 x0_7 (!t117) (⟨#[]⟩ : ByteArray) (⟨#[]⟩ : ByteArray) 0 0 false x117005_7) = some (r1, r2, r3, r4, r5, r6, r7) := H
                have A17 := Aside0.mk A170
                clear A170
                have H' := Aside0.mk H
                clear H
                have p16 : 0 ≤ (0 : Int) := (by omega)
                have q16 : 0 < x0_7.size := (by have : (0 : Int) < (x0_7.size : Int) := (of_decide_eq_true (by first | (with_reducible assumption) | assumption)); omega)
                have hx16 : ∀ h : 0 < x0_7.size, ((x0_7[0]'h).toNat : Int) = bt x0_7 0 := bt_at x0_7 0
                clear p16
                have qi16 : (0 < (x0_7.size : Int)) = True := eq_true ((of_decide_eq_true (by first | (with_reducible assumption) | assumption)))
                replace q16 := eq_true q16
                go_wp2_with (first | (go_at_call 32; (with_reducible refine (octavoref08_Letter.calls (bt x0_7 0) t117 _ A17.out).mono ?_); rintro e w' ⟨rfl, ⟨nd, rfl⟩⟩))
                go_meet
                case rel => exact ⟨_, (!t117), (by first | rfl | (simp; done) | (simp [*]; done) | (simp [Go.Proofs.YtbpckmbepgojfaaDoor.X.bne_nil]; done)), H', ⟨by have := HJ1.out; have := HJ7.out; first | omega | exact Nat.le_refl _⟩, ⟨by (with_reducible repeat (first | refine blk_drewN ?_ _ | refine blk_drew ?_ | refine blk_alloc ?_ _)); exact BK115.out⟩, ⟨by (with_reducible repeat (first | refine blk_drewN ?_ _ | refine blk_drew ?_ | refine blk_alloc ?_ _)); exact BK116.out⟩, ⟨by (repeat (first | (with_reducible first | exact HB.out | apply below_alloc | apply pw_below_drewN | apply below_drew1 | refine below_set ?_ GE115.out | refine below_set ?_ GE116.out) | exact HB.out))⟩⟩
              · rw [if_neg c15] at H
                exact absurd H (by simp)
          case rest =>
            clear HC13
            try clear c1
            try clear p1
            try clear q1
            try clear hx1
            try clear qi1
            try clear p2
            try clear c5
            try clear c5b0
            try clear c5b1
            try clear c6
            try clear c6b0
            try clear c6b1
            try clear p7
            try clear q7
            try clear hx7
            try clear qi7
            try clear c8
            try clear c9
            try clear c10
            try clear c10b0
            try clear c10b1
            try clear c11
            try clear c14
            try clear c14b0
            try clear c14b1
            try clear c15
            try clear c15b0
            try clear c15b1
            try clear p16
            try clear q16
            try clear hx16
            try clear qi16
            try clear hcz12_0
            try clear hcz12_1
            try clear hcz12_2
            try clear hcz12_3
            try clear hcz12_4
            try clear hcz12_5
            try clear hfz12_0
            try clear hfz12_1
            try clear hfz12_2
            try clear hfz12_3
            try clear hfz12_4
            try clear hfz12_5
            try clear p16
            try clear p2
            try clear p7
            try clear q16
            try clear q7
            obtain ⟨kq, x25_12, rfl, HA, HJ12, BK115, BK116, HB⟩ := hcut
            cases kq with
            | zero => exact absurd HA.out (by simp [octavoref08_ParseCell.j2])
            | succ kj12 =>
              have H := HA.out
              clear HA
              simp only [octavoref08_ParseCell.j2] at H
              by_cases c18 : x25_12 = true
              · subst c18
                have H1 : (some ((⟨#[]⟩ : ByteArray), (⟨#[]⟩ : ByteArray), 0, 0, false, false, false)) = some (r1, r2, r3, r4, r5, r6, r7) := by rw [if_pos rfl] at H; exact H
                clear H
                have H := H1
                clear H1
                simp only [Option.some.injEq, Prod.mk.injEq] at H
                obtain ⟨rfl, rfl, rfl, rfl, rfl, rfl, rfl⟩ := H
                have hnb19 := NB115_116.out
                have hnc19 := NB116_115.out
                have hcz20_0 : wc.cell? ⟨gb115, 0, none⟩ = some (.string (⟨#[]⟩ : ByteArray)) := (blk_cell BK115.out 0).trans rfl
                have hcz20_1 : wc.cell? ⟨gb115, 1, none⟩ = some (.string (⟨#[]⟩ : ByteArray)) := (blk_cell BK115.out 1).trans rfl
                have hcz20_2 : wc.cell? ⟨gb115, 2, none⟩ = some (.int .i64 0) := (blk_cell BK115.out 2).trans rfl
                have hcz20_3 : wc.cell? ⟨gb115, 3, none⟩ = some (.int .i64 0) := (blk_cell BK115.out 3).trans rfl
                have hcz20_4 : wc.cell? ⟨gb115, 4, none⟩ = some (.bool false) := (blk_cell BK115.out 4).trans rfl
                have hcz20_5 : wc.cell? ⟨gb115, 5, none⟩ = some (.bool false) := (blk_cell BK115.out 5).trans rfl
                have hfz20_0 := blk_frozen BK115.out 0
                have hfz20_1 := blk_frozen BK115.out 1
                have hfz20_2 := blk_frozen BK115.out 2
                have hfz20_3 := blk_frozen BK115.out 3
                have hfz20_4 := blk_frozen BK115.out 4
                have hfz20_5 := blk_frozen BK115.out 5
                go_wp2_with (first | ((with_reducible refine gate_store (t := 23) (p := 2) rfl ?_); refine store_event (t := 23) (p := 2) (v := ?vo_w21) (w1 := ((((((wc.setCell ⟨gb115, 0, none⟩ (.string (⟨#[]⟩ : ByteArray))).setCell ⟨gb115, 1, none⟩ (.string (⟨#[]⟩ : ByteArray))).setCell ⟨gb115, 2, none⟩ (.int .i64 0)).setCell ⟨gb115, 3, none⟩ (.int .i64 0)).setCell ⟨gb115, 4, none⟩ (.bool false)).setCell ⟨gb115, 5, none⟩ (.bool false))) ?hg ?ho ?hn ?hr ?_; (case ho => rfl); (case hg => rfl); (case hn => rfl); (case hr => first | (go_simp; done) | (go_simp; rfl)); intro w21 hw; have n0_ : Aside0 (w21.heap[gb115]? = some (.cells #[.string (⟨#[]⟩ : ByteArray), .string (⟨#[]⟩ : ByteArray), .int .i64 0, .int .i64 0, .bool false, .bool false] 23 (0, 0))) := ⟨(by rw [hw]; exact (by (with_reducible repeat (first | refine blk_drewN ?_ _ | refine blk_drew ?_ | refine blk_alloc ?_ _)); refine blk_put (cs := #[.string (⟨#[]⟩ : ByteArray), .string (⟨#[]⟩ : ByteArray), .int .i64 0, .int .i64 0, .bool false, .bool false]) ?_ 5 _ rfl; (with_reducible repeat (first | refine blk_drewN ?_ _ | refine blk_drew ?_ | refine blk_alloc ?_ _)); refine blk_put (cs := #[.string (⟨#[]⟩ : ByteArray), .string (⟨#[]⟩ : ByteArray), .int .i64 0, .int .i64 0, .bool false, .bool false]) ?_ 4 _ rfl; (with_reducible repeat (first | refine blk_drewN ?_ _ | refine blk_drew ?_ | refine blk_alloc ?_ _)); refine blk_put (cs := #[.string (⟨#[]⟩ : ByteArray), .string (⟨#[]⟩ : ByteArray), .int .i64 0, .int .i64 0, .bool false, .bool false]) ?_ 3 _ rfl; (with_reducible repeat (first | refine blk_drewN ?_ _ | refine blk_drew ?_ | refine blk_alloc ?_ _)); refine blk_put (cs := #[.string (⟨#[]⟩ : ByteArray), .string (⟨#[]⟩ : ByteArray), .int .i64 0, .int .i64 0, .bool false, .bool false]) ?_ 2 _ rfl; (with_reducible repeat (first | refine blk_drewN ?_ _ | refine blk_drew ?_ | refine blk_alloc ?_ _)); refine blk_put (cs := #[.string (⟨#[]⟩ : ByteArray), .string (⟨#[]⟩ : ByteArray), .int .i64 0, .int .i64 0, .bool false, .bool false]) ?_ 1 _ rfl; (with_reducible repeat (first | refine blk_drewN ?_ _ | refine blk_drew ?_ | refine blk_alloc ?_ _)); refine blk_put (cs := #[.string (⟨#[]⟩ : ByteArray), .string (⟨#[]⟩ : ByteArray), .int .i64 0, .int .i64 0, .bool false, .bool false]) ?_ 0 _ rfl; (with_reducible repeat (first | refine blk_drewN ?_ _ | refine blk_drew ?_ | refine blk_alloc ?_ _)); exact BK115.out))⟩; have n1_ : Aside0 (w21.heap[gb116]? = some (.cells #[.string (⟨#[]⟩ : ByteArray), .string (⟨#[]⟩ : ByteArray), .int .i64 0, .int .i64 0, .bool false, .bool x117005_7] 23 (0, 0))) := ⟨(by rw [hw]; exact (by (with_reducible repeat (first | refine blk_drewN ?_ _ | refine blk_drew ?_ | refine blk_alloc ?_ _)); refine blk_far ?_ NB116_115.out _; (with_reducible repeat (first | refine blk_drewN ?_ _ | refine blk_drew ?_ | refine blk_alloc ?_ _)); refine blk_far ?_ NB116_115.out _; (with_reducible repeat (first | refine blk_drewN ?_ _ | refine blk_drew ?_ | refine blk_alloc ?_ _)); refine blk_far ?_ NB116_115.out _; (with_reducible repeat (first | refine blk_drewN ?_ _ | refine blk_drew ?_ | refine blk_alloc ?_ _)); refine blk_far ?_ NB116_115.out _; (with_reducible repeat (first | refine blk_drewN ?_ _ | refine blk_drew ?_ | refine blk_alloc ?_ _)); refine blk_far ?_ NB116_115.out _; (with_reducible repeat (first | refine blk_drewN ?_ _ | refine blk_drew ?_ | refine blk_alloc ?_ _)); refine blk_far ?_ NB116_115.out _; (with_reducible repeat (first | refine blk_drewN ?_ _ | refine blk_drew ?_ | refine blk_alloc ?_ _)); exact BK116.out))⟩; have n2_ : Aside0 (Below w.heap.size w w21) := ⟨(by rw [hw]; exact (by (repeat (first | (with_reducible first | exact HB.out | apply below_alloc | apply pw_below_drewN | apply below_drew1 | refine below_set ?_ GE115.out | refine below_set ?_ GE116.out) | exact HB.out))))⟩; clear hw; clear BK115; clear BK116; clear HB; have BK115 := n0_; have BK116 := n1_; have HB := n2_; clear n0_ n1_ n2_))
                refine bodyPost_ret (results_ct rfl _ _ gb115 23 #[.string (⟨#[]⟩ : ByteArray), .string (⟨#[]⟩ : ByteArray), .int .i64 0, .int .i64 0, .bool false, .bool false] (0, 0) _ rfl (by (with_reducible repeat (first | refine blk_drewN ?_ _ | refine blk_drew ?_ | refine blk_alloc ?_ _)); exact BK115.out) Tryd.underlying23 rfl (by kernel_rfl)) rfl ?_
                exact ⟨by first | rfl | (simp [errW_none, errW_some] <;> rfl) | (simp [*, errW_none, errW_some] <;> rfl), by (repeat (first | (with_reducible first | exact HB.out | apply below_alloc | apply pw_below_drewN | apply below_drew1 | refine below_set ?_ GE115.out | refine below_set ?_ GE116.out) | exact HB.out))⟩
              · replace c18 := Bool.eq_false_iff.mpr c18
                subst c18
                have H1 : (if 0 ≤ 1 then (if 1 ≤ (x0_7.size : Int) then ((octavoref06_Upper.f (x0_7.extract 0 1)).bind fun t118 => (if 0 < (t118.size : Int) then (if 0 < ((x0_7.extract 1 x0_7.size).size : Int) then (if (bt (x0_7.extract 1 x0_7.size) 0) = 36 then (if 1 ≤ ((x0_7.extract 1 x0_7.size).size : Int) then (octavoref08_ParseCell.j3 kj12 ((x0_7.extract 1 x0_7.size).extract 1 (x0_7.extract 1 x0_7.size).size) (⟨#[]⟩ : ByteArray) (⟨#[]⟩ : ByteArray) 0 ((((bt t118 0) - 65) % 256) + 1) true x117005_7) else (none)) else (octavoref08_ParseCell.j3 kj12 (x0_7.extract 1 x0_7.size) (⟨#[]⟩ : ByteArray) (⟨#[]⟩ : ByteArray) 0 ((((bt t118 0) - 65) % 256) + 1) false x117005_7)) else (none)) else (none))) else (none)) else (none)) = some (r1, r2, r3, r4, r5, r6, r7) := by rw [if_neg (show ¬ (false = true) by decide)] at H; exact H
                clear H
                have H := H1
                clear H1
                by_cases c22 : 0 ≤ 1
                · rw [if_pos c22] at H
                  have c22b0 := eq_true c22
                  have c22b1 : decide (0 ≤ 1) = true := decide_eq_true c22
                  clear c22
                  by_cases c23 : 1 ≤ (x0_7.size : Int)
                  · rw [if_pos c23] at H
                    have c23b0 := eq_true c23
                    have c23b1 : decide (1 ≤ (x0_7.size : Int)) = true := decide_eq_true c23
                    clear c23
                    replace H := Option.bind_eq_some_iff.mp H
                    obtain ⟨t118, A240, H⟩ := H
                    replace H : (if 0 < (t118.size : Int) then (if 0 < ((x0_7.extract 1 x0_7.size).size : Int) then (if (bt (x0_7.extract 1 x0_7.size) 0) = 36 then (if 1 ≤ ((x0_7.extract 1 x0_7.size).size : Int) then (octavoref08_ParseCell.j3 kj12 ((x0_7.extract 1 x0_7.size).extract 1 (x0_7.extract 1 x0_7.size).size) (⟨#[]⟩ : ByteArray) (⟨#[]⟩ : ByteArray) 0 ((((bt t118 0) - 65) % 256) + 1) true x117005_7) else (none)) else (octavoref08_ParseCell.j3 kj12 (x0_7.extract 1 x0_7.size) (⟨#[]⟩ : ByteArray) (⟨#[]⟩ : ByteArray) 0 ((((bt t118 0) - 65) % 256) + 1) false x117005_7)) else (none)) else (none)) = some (r1, r2, r3, r4, r5, r6, r7) := H
                    have A24 := Aside0.mk A240
                    clear A240
                    by_cases c25 : 0 < (t118.size : Int)
                    · rw [if_pos c25] at H
                      have c25b0 : decide (0 < (t118.size : Int)) = true := decide_eq_true c25
                      have c25b1 : decide (0 < t118.size) = true := decide_eq_true (by omega)
                      clear c25
                      have c27b0 := eq_true ((of_decide_eq_true (by first | (with_reducible assumption) | assumption)) : 1 ≤ (x0_7.size : Int))
                      by_cases c28 : 0 < ((x0_7.extract 1 x0_7.size).size : Int)
                      · rw [if_pos c28] at H
                        have c28b0 : decide (0 < ((x0_7.extract 1 x0_7.size).size : Int)) = true := decide_eq_true c28
                        have c28b1 : decide (0 < (x0_7.extract 1 x0_7.size).size) = true := decide_eq_true (by omega)
                        clear c28
                        have HC30 := Aside0.mk H
                        clear H
                        go_upto_if 39 with (first | ((with_reducible refine gate_callee (f := 33) rfl ?_); refine goesL_ (some 29) rfl rfl Tryd.func33 (by kernel_rfl) rfl #[.string (x0_7.extract 0 1)] rfl (by (try simp only [List.map_toArray, List.map_cons, List.map_nil]); first | done | rfl | (simp only [List.length_drop, List.length_take]; rfl)) ?_; (with_reducible refine (octavoref06_Upper.calls (x0_7.extract 0 1) t118 _ A24.out).mono ?_); rintro e w31 ⟨rfl, hb⟩; refine ⟨_, rfl, ?_⟩; have n0_ := Aside0.mk (blk_below (g := gb115) (o := .cells #[.string (⟨#[]⟩ : ByteArray), .string (⟨#[]⟩ : ByteArray), .int .i64 0, .int .i64 0, .bool false, .bool false] 23 (0, 0)) (by (with_reducible repeat (first | refine blk_drewN ?_ _ | refine blk_drew ?_ | refine blk_alloc ?_ _)); exact BK115.out) hb); have n1_ := Aside0.mk (blk_below (g := gb116) (o := .cells #[.string (⟨#[]⟩ : ByteArray), .string (⟨#[]⟩ : ByteArray), .int .i64 0, .int .i64 0, .bool false, .bool x117005_7] 23 (0, 0)) (by (with_reducible repeat (first | refine blk_drewN ?_ _ | refine blk_drew ?_ | refine blk_alloc ?_ _)); exact BK116.out) hb); have n2_ := Aside0.mk (below_step (by (repeat (first | (with_reducible first | exact HB.out | apply below_alloc | apply pw_below_drewN | apply below_drew1 | refine below_set ?_ GE115.out | refine below_set ?_ GE116.out) | exact HB.out))) hb); clear BK115; clear BK116; clear HB; have BK115 := n0_; have BK116 := n1_; have HB := n2_; clear n0_ n1_ n2_; (try clear hb); (try clear hb2); (try clear hk); (try clear hi); have p26 : 0 ≤ (0 : Int) := (by omega); have q26 : 0 < t118.size := (by have : (0 : Int) < (t118.size : Int) := (of_decide_eq_true (by first | (with_reducible assumption) | assumption)); omega); have hx26 : ∀ h : 0 < t118.size, ((t118[0]'h).toNat : Int) = bt t118 0 := bt_at t118 0; clear p26; have qi26 : (0 < (t118.size : Int)) = True := eq_true ((of_decide_eq_true (by first | (with_reducible assumption) | assumption))); replace q26 := eq_true q26; have hnb32 := NB116_115.out; have hnc32 := NB115_116.out; have hcz33_0 : w31.cell? ⟨gb116, 0, none⟩ = some (.string (⟨#[]⟩ : ByteArray)) := (blk_cell BK116.out 0).trans rfl; have hcz33_1 : w31.cell? ⟨gb116, 1, none⟩ = some (.string (⟨#[]⟩ : ByteArray)) := (blk_cell BK116.out 1).trans rfl; have hcz33_2 : w31.cell? ⟨gb116, 2, none⟩ = some (.int .i64 0) := (blk_cell BK116.out 2).trans rfl; have hcz33_3 : w31.cell? ⟨gb116, 3, none⟩ = some (.int .i64 0) := (blk_cell BK116.out 3).trans rfl; have hcz33_4 : w31.cell? ⟨gb116, 4, none⟩ = some (.bool false) := (blk_cell BK116.out 4).trans rfl; have hcz33_5 : w31.cell? ⟨gb116, 5, none⟩ = some (.bool x117005_7) := (blk_cell BK116.out 5).trans rfl; have hfz33_0 := blk_frozen BK116.out 0; have hfz33_1 := blk_frozen BK116.out 1; have hfz33_2 := blk_frozen BK116.out 2; have hfz33_3 := blk_frozen BK116.out 3; have hfz33_4 := blk_frozen BK116.out 4; have hfz33_5 := blk_frozen BK116.out 5; have p29 : 0 ≤ (0 : Int) := (by omega); have q29 : 0 < (x0_7.extract 1 x0_7.size).size := (by have : (0 : Int) < ((x0_7.extract 1 x0_7.size).size : Int) := (of_decide_eq_true (by first | (with_reducible assumption) | assumption)); omega); have hx29 : ∀ h : 0 < (x0_7.extract 1 x0_7.size).size, (((x0_7.extract 1 x0_7.size)[0]'h).toNat : Int) = bt (x0_7.extract 1 x0_7.size) 0 := bt_at (x0_7.extract 1 x0_7.size) 0; clear p29; have qi29 : (0 < ((x0_7.extract 1 x0_7.size).size : Int)) = True := eq_true ((of_decide_eq_true (by first | (with_reducible assumption) | assumption))); replace q29 := eq_true q29; have q29s : (0 < x0_7.size - 1) = True := eq_true (by have h0 := of_eq_true q29; rw [ByteArray.size_extract] at h0; omega); have hx29s : ∀ h : 1 < x0_7.size, ((x0_7[1]'h).toNat : Int) = bt (x0_7.extract 1 x0_7.size) 0 := (by intro h; have h1 := hx29 (of_eq_true q29); rw [ByteArray.getElem_extract] at h1; exact h1)))
                        (try simp only [Act.put, List.setIfInBounds_toArray, List.set_cons_zero, List.set_cons_succ])
                        go_cut [0] (fun v0 wc => ∃ (kq : Nat) (x0_29 : ByteArray) (x117004_29 : Bool), v0 = .string x0_29 ∧ Aside0 (octavoref08_ParseCell.j3 kq x0_29 (⟨#[]⟩ : ByteArray) (⟨#[]⟩ : ByteArray) 0 ((((bt t118 0) - 65) % 256) + 1) x117004_29 x117005_7 = some (r1, r2, r3, r4, r5, r6, r7)) ∧ Aside0 (kq ≤ kj12) ∧ Aside0 (wc.heap[gb115]? = some (.cells #[.string (⟨#[]⟩ : ByteArray), .string (⟨#[]⟩ : ByteArray), .int .i64 0, .int .i64 0, .bool false, .bool false] 23 (0, 0))) ∧ Aside0 (wc.heap[gb116]? = some (.cells #[.string (⟨#[]⟩ : ByteArray), .string (⟨#[]⟩ : ByteArray), .int .i64 0, .int .i64 ((((bt t118 0) - 65) % 256) + 1), .bool x117004_29, .bool x117005_7] 23 (0, 0))) ∧ Aside0 (Below w.heap.size w wc))
                        case first =>
                          have H := HC30.out
                          clear HC30
                          by_cases c34 : (bt (x0_7.extract 1 x0_7.size) 0) = 36
                          · rw [if_pos c34] at H
                            have c34b0 : ((bt (x0_7.extract 1 x0_7.size) 0) == 36) = true := beq_iff_eq.mpr c34
                            have c34b1 : ((bt (x0_7.extract 1 x0_7.size) 0) != 36) = false := bne_eq_false_iff_eq.mpr c34
                            clear c34
                            (first | rw [c34b0] | (simp only [i64_w, i32_w]; rw [c34b0]) | skip)
                            by_cases c35 : 1 ≤ ((x0_7.extract 1 x0_7.size).size : Int)
                            · rw [if_pos c35] at H
                              have c35b0 := eq_true c35
                              have c35b1 : decide (1 ≤ ((x0_7.extract 1 x0_7.size).size : Int)) = true := decide_eq_true c35
                              clear c35
                              have H' := Aside0.mk H
                              clear H
                              have hnb36 := NB116_115.out
                              have hnc36 := NB115_116.out
                              have hcz37_0 : w31.cell? ⟨gb116, 0, none⟩ = some (.string (⟨#[]⟩ : ByteArray)) := (blk_cell BK116.out 0).trans rfl
                              have hcz37_1 : w31.cell? ⟨gb116, 1, none⟩ = some (.string (⟨#[]⟩ : ByteArray)) := (blk_cell BK116.out 1).trans rfl
                              have hcz37_2 : w31.cell? ⟨gb116, 2, none⟩ = some (.int .i64 0) := (blk_cell BK116.out 2).trans rfl
                              have hcz37_3 : w31.cell? ⟨gb116, 3, none⟩ = some (.int .i64 0) := (blk_cell BK116.out 3).trans rfl
                              have hcz37_4 : w31.cell? ⟨gb116, 4, none⟩ = some (.bool false) := (blk_cell BK116.out 4).trans rfl
                              have hcz37_5 : w31.cell? ⟨gb116, 5, none⟩ = some (.bool x117005_7) := (blk_cell BK116.out 5).trans rfl
                              have hfz37_0 := blk_frozen BK116.out 0
                              have hfz37_1 := blk_frozen BK116.out 1
                              have hfz37_2 := blk_frozen BK116.out 2
                              have hfz37_3 := blk_frozen BK116.out 3
                              have hfz37_4 := blk_frozen BK116.out 4
                              have hfz37_5 := blk_frozen BK116.out 5
                              go_wp2
                              go_meet
                              case rel => exact ⟨_, ((x0_7.extract 1 x0_7.size).extract 1 (x0_7.extract 1 x0_7.size).size), (true), (by first | rfl | (simp; done) | (simp [*]; done) | (simp [Go.Proofs.YtbpckmbepgojfaaDoor.X.bne_nil]; done)), H', ⟨by have := HJ1.out; have := HJ7.out; have := HJ12.out; first | omega | exact Nat.le_refl _⟩, ⟨by (with_reducible repeat (first | refine blk_drewN ?_ _ | refine blk_drew ?_ | refine blk_alloc ?_ _)); refine blk_far ?_ NB115_116.out _; (with_reducible repeat (first | refine blk_drewN ?_ _ | refine blk_drew ?_ | refine blk_alloc ?_ _)); refine blk_far ?_ NB115_116.out _; (with_reducible repeat (first | refine blk_drewN ?_ _ | refine blk_drew ?_ | refine blk_alloc ?_ _)); exact BK115.out⟩, ⟨by (with_reducible repeat (first | refine blk_drewN ?_ _ | refine blk_drew ?_ | refine blk_alloc ?_ _)); refine blk_put (cs := #[.string (⟨#[]⟩ : ByteArray), .string (⟨#[]⟩ : ByteArray), .int .i64 0, .int .i64 ((((bt t118 0) - 65) % 256) + 1), .bool false, .bool x117005_7]) ?_ 4 _ (by first | rfl | (simp only [X.w64_m]; rfl) | (simp only [Go.Proofs.YtbpckmbepgojfaaDoor.X.w64_m]; rfl)); (with_reducible repeat (first | refine blk_drewN ?_ _ | refine blk_drew ?_ | refine blk_alloc ?_ _)); refine blk_put (cs := #[.string (⟨#[]⟩ : ByteArray), .string (⟨#[]⟩ : ByteArray), .int .i64 0, .int .i64 0, .bool false, .bool x117005_7]) ?_ 3 _ (by first | rfl | (simp only [X.w64_m]; rfl) | (simp only [Go.Proofs.YtbpckmbepgojfaaDoor.X.w64_m]; rfl)); (with_reducible repeat (first | refine blk_drewN ?_ _ | refine blk_drew ?_ | refine blk_alloc ?_ _)); exact BK116.out⟩, ⟨by (repeat (first | (with_reducible first | exact HB.out | apply below_alloc | apply pw_below_drewN | apply below_drew1 | refine below_set ?_ GE115.out | refine below_set ?_ GE116.out) | exact HB.out))⟩⟩
                            · rw [if_neg c35] at H
                              exact absurd H (by simp)
                          · rw [if_neg c34] at H
                            have c34b0 : ((bt (x0_7.extract 1 x0_7.size) 0) == 36) = false := beq_eq_false_iff_ne.mpr c34
                            have c34b1 : ((bt (x0_7.extract 1 x0_7.size) 0) != 36) = true := bne_iff_ne.mpr c34
                            (first | rw [c34b0] | (simp only [i64_w, i32_w]; rw [c34b0]) | skip)
                            have H' := Aside0.mk H
                            clear H
                            go_wp2
                            go_meet
                            case rel => exact ⟨_, (x0_7.extract 1 x0_7.size), (false), (by first | rfl | (simp; done) | (simp [*]; done) | (simp [Go.Proofs.YtbpckmbepgojfaaDoor.X.bne_nil]; done)), H', ⟨by have := HJ1.out; have := HJ7.out; have := HJ12.out; first | omega | exact Nat.le_refl _⟩, ⟨by (with_reducible repeat (first | refine blk_drewN ?_ _ | refine blk_drew ?_ | refine blk_alloc ?_ _)); refine blk_far ?_ NB115_116.out _; (with_reducible repeat (first | refine blk_drewN ?_ _ | refine blk_drew ?_ | refine blk_alloc ?_ _)); exact BK115.out⟩, ⟨by (with_reducible repeat (first | refine blk_drewN ?_ _ | refine blk_drew ?_ | refine blk_alloc ?_ _)); refine blk_put (cs := #[.string (⟨#[]⟩ : ByteArray), .string (⟨#[]⟩ : ByteArray), .int .i64 0, .int .i64 0, .bool false, .bool x117005_7]) ?_ 3 _ rfl; (with_reducible repeat (first | refine blk_drewN ?_ _ | refine blk_drew ?_ | refine blk_alloc ?_ _)); exact BK116.out⟩, ⟨by (repeat (first | (with_reducible first | exact HB.out | apply below_alloc | apply pw_below_drewN | apply below_drew1 | refine below_set ?_ GE115.out | refine below_set ?_ GE116.out) | exact HB.out))⟩⟩
                        case rest =>
                          clear HC30
                          try clear c1
                          try clear p1
                          try clear q1
                          try clear hx1
                          try clear qi1
                          try clear c2
                          try clear p2
                          try clear q2
                          try clear hx2
                          try clear qi2
                          try clear c3
                          try clear c5
                          try clear c5b0
                          try clear c5b1
                          try clear c6
                          try clear c6b0
                          try clear c6b1
                          try clear p7
                          try clear q7
                          try clear hx7
                          try clear qi7
                          try clear c8
                          try clear c9
                          try clear c10
                          try clear c10b0
                          try clear c10b1
                          try clear c11
                          try clear c14
                          try clear c14b0
                          try clear c14b1
                          try clear c15
                          try clear c15b0
                          try clear c15b1
                          try clear p16
                          try clear q16
                          try clear hx16
                          try clear qi16
                          try clear c18
                          try clear c19
                          try clear c22
                          try clear c22b0
                          try clear c22b1
                          try clear c23
                          try clear c23b0
                          try clear c23b1
                          try clear c25
                          try clear c25b0
                          try clear c25b1
                          try clear p26
                          try clear q26
                          try clear hx26
                          try clear qi26
                          try clear c27
                          try clear c27b0
                          try clear c28
                          try clear c28b0
                          try clear c28b1
                          try clear p29
                          try clear q29
                          try clear hx29
                          try clear qi29
                          try clear c32
                          try clear c33
                          try clear c34
                          try clear c34b0
                          try clear c34b1
                          try clear c35
                          try clear c35b0
                          try clear c35b1
                          try clear c36
                          try clear hcz12_0
                          try clear hcz12_1
                          try clear hcz12_2
                          try clear hcz12_3
                          try clear hcz12_4
                          try clear hcz12_5
                          try clear hcz20_0
                          try clear hcz20_1
                          try clear hcz20_2
                          try clear hcz20_3
                          try clear hcz20_4
                          try clear hcz20_5
                          try clear hcz33_0
                          try clear hcz33_1
                          try clear hcz33_2
                          try clear hcz33_3
                          try clear hcz33_4
                          try clear hcz33_5
                          try clear hcz37_0
                          try clear hcz37_1
                          try clear hcz37_2
                          try clear hcz37_3
                          try clear hcz37_4
                          try clear hcz37_5
                          try clear hfz12_0
                          try clear hfz12_1
                          try clear hfz12_2
                          try clear hfz12_3
                          try clear hfz12_4
                          try clear hfz12_5
                          try clear hfz20_0
                          try clear hfz20_1
                          try clear hfz20_2
                          try clear hfz20_3
                          try clear hfz20_4
                          try clear hfz20_5
                          try clear hfz33_0
                          try clear hfz33_1
                          try clear hfz33_2
                          try clear hfz33_3
                          try clear hfz33_4
                          try clear hfz33_5
                          try clear hfz37_0
                          try clear hfz37_1
                          try clear hfz37_2
                          try clear hfz37_3
                          try clear hfz37_4
                          try clear hfz37_5
                          try clear p1
                          try clear p16
                          try clear p2
                          try clear p26
                          try clear p29
                          try clear p7
                          try clear q1
                          try clear q16
                          try clear q26
                          try clear q29
                          try clear q7
                          obtain ⟨kq, x0_29, x117004_29, rfl, HA, HJ29, BK115, BK116, HB⟩ := hcut
                          cases kq with
                          | zero => exact absurd HA.out (by simp [octavoref08_ParseCell.j3])
                          | succ kj29 =>
                            have H := HA.out
                            clear HA
                            simp only [octavoref08_ParseCell.j3] at H
                            have HC38 := Aside0.mk H
                            clear H
                            go_upto_region 12 with (fail)
                            go_cut [55] (fun v55 wc => ∃ (kq : Nat) (x55_37 : Bool), v55 = .bool x55_37 ∧ Aside0 (octavoref08_ParseCell.j4 kq x0_29 x55_37 (⟨#[]⟩ : ByteArray) (⟨#[]⟩ : ByteArray) 0 ((((bt t118 0) - 65) % 256) + 1) x117004_29 x117005_7 = some (r1, r2, r3, r4, r5, r6, r7)) ∧ Aside0 (kq ≤ kj29) ∧ Aside0 (wc.heap[gb115]? = some (.cells #[.string (⟨#[]⟩ : ByteArray), .string (⟨#[]⟩ : ByteArray), .int .i64 0, .int .i64 0, .bool false, .bool false] 23 (0, 0))) ∧ Aside0 (wc.heap[gb116]? = some (.cells #[.string (⟨#[]⟩ : ByteArray), .string (⟨#[]⟩ : ByteArray), .int .i64 0, .int .i64 ((((bt t118 0) - 65) % 256) + 1), .bool x117004_29, .bool x117005_7] 23 (0, 0))) ∧ Aside0 (Below w.heap.size w wc))
                            case first =>
                              have H := HC38.out
                              clear HC38
                              by_cases c39 : (x0_29.size : Int) < 1
                              · rw [if_pos c39] at H
                                have c39b0 : decide ((x0_29.size : Int) < 1) = true := decide_eq_true c39
                                have c39b1 : decide (x0_29.size < 1) = true := decide_eq_true (by omega)
                                clear c39
                                (first | rw [c39b0] | (simp only [i64_w, i32_w]; rw [c39b0]) | skip)
                                have H' := Aside0.mk H
                                clear H
                                go_wp2
                                go_meet
                                case rel => exact ⟨_, (true), (by first | rfl | (simp; done) | (simp [*]; done) | (simp [Go.Proofs.YtbpckmbepgojfaaDoor.X.bne_nil]; done)), H', ⟨by have := HJ1.out; have := HJ7.out; have := HJ12.out; have := HJ29.out; first | omega | exact Nat.le_refl _⟩, ⟨by (with_reducible repeat (first | refine blk_drewN ?_ _ | refine blk_drew ?_ | refine blk_alloc ?_ _)); exact BK115.out⟩, ⟨by (with_reducible repeat (first | refine blk_drewN ?_ _ | refine blk_drew ?_ | refine blk_alloc ?_ _)); exact BK116.out⟩, ⟨by (repeat (first | (with_reducible first | exact HB.out | apply below_alloc | apply pw_below_drewN | apply below_drew1 | refine below_set ?_ GE115.out | refine below_set ?_ GE116.out) | exact HB.out))⟩⟩
                              · rw [if_neg c39] at H
                                have c39b0 : decide ((x0_29.size : Int) < 1) = false := decide_eq_false c39
                                have c39b1 : decide (x0_29.size < 1) = false := decide_eq_false (by omega)
                                clear c39
                                (first | rw [c39b0] | (simp only [i64_w, i32_w]; rw [c39b0]) | skip)
                                by_cases c40 : (x0_29.size : Int) > 2
                                · rw [if_pos c40] at H
                                  have c40b0 : decide (2 < (x0_29.size : Int)) = true := decide_eq_true c40
                                  have c40b1 : decide (2 < x0_29.size) = true := decide_eq_true (by omega)
                                  clear c40
                                  have H' := Aside0.mk H
                                  clear H
                                  go_wp2
                                  go_meet
                                  case rel => exact ⟨_, (true), (by first | rfl | (simp; done) | (simp [*]; done) | (simp [Go.Proofs.YtbpckmbepgojfaaDoor.X.bne_nil]; done)), H', ⟨by have := HJ1.out; have := HJ7.out; have := HJ12.out; have := HJ29.out; first | omega | exact Nat.le_refl _⟩, ⟨by (with_reducible repeat (first | refine blk_drewN ?_ _ | refine blk_drew ?_ | refine blk_alloc ?_ _)); exact BK115.out⟩, ⟨by (with_reducible repeat (first | refine blk_drewN ?_ _ | refine blk_drew ?_ | refine blk_alloc ?_ _)); exact BK116.out⟩, ⟨by (repeat (first | (with_reducible first | exact HB.out | apply below_alloc | apply pw_below_drewN | apply below_drew1 | refine below_set ?_ GE115.out | refine below_set ?_ GE116.out) | exact HB.out))⟩⟩
                                · rw [if_neg c40] at H
                                  have c40b0 : decide (2 < (x0_29.size : Int)) = false := decide_eq_false c40
                                  have c40b1 : decide (2 < x0_29.size) = false := decide_eq_false (by omega)
                                  clear c40
                                  by_cases c41 : 0 < (x0_29.size : Int)
                                  · rw [if_pos c41] at H
                                    have c41b0 : decide (0 < (x0_29.size : Int)) = true := decide_eq_true c41
                                    have c41b1 : decide (0 < x0_29.size) = true := decide_eq_true (by omega)
                                    clear c41
                                    have H' := Aside0.mk H
                                    clear H
                                    have p42 : 0 ≤ (0 : Int) := (by omega)
                                    have q42 : 0 < x0_29.size := (by have : (0 : Int) < (x0_29.size : Int) := (of_decide_eq_true (by first | (with_reducible assumption) | assumption)); omega)
                                    have hx42 : ∀ h : 0 < x0_29.size, ((x0_29[0]'h).toNat : Int) = bt x0_29 0 := bt_at x0_29 0
                                    clear p42
                                    have qi42 : (0 < (x0_29.size : Int)) = True := eq_true ((of_decide_eq_true (by first | (with_reducible assumption) | assumption)))
                                    replace q42 := eq_true q42
                                    go_wp2
                                    go_meet
                                    case rel => exact ⟨_, (((bt x0_29 0) == 48)), (by first | rfl | (simp; done) | (simp [*]; done) | (simp [Go.Proofs.YtbpckmbepgojfaaDoor.X.bne_nil]; done)), H', ⟨by have := HJ1.out; have := HJ7.out; have := HJ12.out; have := HJ29.out; first | omega | exact Nat.le_refl _⟩, ⟨by (with_reducible repeat (first | refine blk_drewN ?_ _ | refine blk_drew ?_ | refine blk_alloc ?_ _)); exact BK115.out⟩, ⟨by (with_reducible repeat (first | refine blk_drewN ?_ _ | refine blk_drew ?_ | refine blk_alloc ?_ _)); exact BK116.out⟩, ⟨by (repeat (first | (with_reducible first | exact HB.out | apply below_alloc | apply pw_below_drewN | apply below_drew1 | refine below_set ?_ GE115.out | refine below_set ?_ GE116.out) | exact HB.out))⟩⟩
                                  · rw [if_neg c41] at H
                                    exact absurd H (by simp)
                            case rest =>
                              clear HC38
                              try clear c1
                              try clear p1
                              try clear q1
                              try clear hx1
                              try clear qi1
                              try clear c2
                              try clear p2
                              try clear q2
                              try clear hx2
                              try clear qi2
                              try clear c3
                              try clear c4
                              try clear p4
                              try clear q4
                              try clear hx4
                              try clear qi4
                              try clear c5
                              try clear c5b0
                              try clear c5b1
                              try clear c6
                              try clear c6b0
                              try clear c6b1
                              try clear p7
                              try clear q7
                              try clear hx7
                              try clear qi7
                              try clear c8
                              try clear c9
                              try clear c10
                              try clear c10b0
                              try clear c10b1
                              try clear c11
                              try clear c14
                              try clear c14b0
                              try clear c14b1
                              try clear c15
                              try clear c15b0
                              try clear c15b1
                              try clear p16
                              try clear q16
                              try clear hx16
                              try clear qi16
                              try clear c18
                              try clear c19
                              try clear c22
                              try clear c22b0
                              try clear c22b1
                              try clear c23
                              try clear c23b0
                              try clear c23b1
                              try clear c25
                              try clear c25b0
                              try clear c25b1
                              try clear p26
                              try clear q26
                              try clear hx26
                              try clear qi26
                              try clear c27
                              try clear c27b0
                              try clear c28
                              try clear c28b0
                              try clear c28b1
                              try clear p29
                              try clear q29
                              try clear hx29
                              try clear qi29
                              try clear c32
                              try clear c33
                              try clear c34
                              try clear c34b0
                              try clear c34b1
                              try clear c35
                              try clear c35b0
                              try clear c35b1
                              try clear c36
                              try clear c39
                              try clear c39b0
                              try clear c39b1
                              try clear c40
                              try clear c40b0
                              try clear c40b1
                              try clear c41
                              try clear c41b0
                              try clear c41b1
                              try clear p42
                              try clear q42
                              try clear hx42
                              try clear qi42
                              try clear hcz12_0
                              try clear hcz12_1
                              try clear hcz12_2
                              try clear hcz12_3
                              try clear hcz12_4
                              try clear hcz12_5
                              try clear hcz20_0
                              try clear hcz20_1
                              try clear hcz20_2
                              try clear hcz20_3
                              try clear hcz20_4
                              try clear hcz20_5
                              try clear hcz33_0
                              try clear hcz33_1
                              try clear hcz33_2
                              try clear hcz33_3
                              try clear hcz33_4
                              try clear hcz33_5
                              try clear hcz37_0
                              try clear hcz37_1
                              try clear hcz37_2
                              try clear hcz37_3
                              try clear hcz37_4
                              try clear hcz37_5
                              try clear hfz12_0
                              try clear hfz12_1
                              try clear hfz12_2
                              try clear hfz12_3
                              try clear hfz12_4
                              try clear hfz12_5
                              try clear hfz20_0
                              try clear hfz20_1
                              try clear hfz20_2
                              try clear hfz20_3
                              try clear hfz20_4
                              try clear hfz20_5
                              try clear hfz33_0
                              try clear hfz33_1
                              try clear hfz33_2
                              try clear hfz33_3
                              try clear hfz33_4
                              try clear hfz33_5
                              try clear hfz37_0
                              try clear hfz37_1
                              try clear hfz37_2
                              try clear hfz37_3
                              try clear hfz37_4
                              try clear hfz37_5
                              try clear p1
                              try clear p16
                              try clear p2
                              try clear p26
                              try clear p29
                              try clear p42
                              try clear p7
                              try clear q1
                              try clear q16
                              try clear q2
                              try clear q26
                              try clear q29
                              try clear q42
                              try clear q7
                              obtain ⟨kq, x55_37, rfl, HA, HJ37, BK115, BK116, HB⟩ := hcut
                              cases kq with
                              | zero => exact absurd HA.out (by simp [octavoref08_ParseCell.j4])
                              | succ kj37 =>
                                have H := HA.out
                                clear HA
                                simp only [octavoref08_ParseCell.j4] at H
                                by_cases c43 : x55_37 = true
                                · subst c43
                                  have H1 : (some ((⟨#[]⟩ : ByteArray), (⟨#[]⟩ : ByteArray), 0, 0, false, false, false)) = some (r1, r2, r3, r4, r5, r6, r7) := by rw [if_pos rfl] at H; exact H
                                  clear H
                                  have H := H1
                                  clear H1
                                  simp only [Option.some.injEq, Prod.mk.injEq] at H
                                  obtain ⟨rfl, rfl, rfl, rfl, rfl, rfl, rfl⟩ := H
                                  have hnb44 := NB115_116.out
                                  have hnc44 := NB116_115.out
                                  have hcz45_0 : wc.cell? ⟨gb115, 0, none⟩ = some (.string (⟨#[]⟩ : ByteArray)) := (blk_cell BK115.out 0).trans rfl
                                  have hcz45_1 : wc.cell? ⟨gb115, 1, none⟩ = some (.string (⟨#[]⟩ : ByteArray)) := (blk_cell BK115.out 1).trans rfl
                                  have hcz45_2 : wc.cell? ⟨gb115, 2, none⟩ = some (.int .i64 0) := (blk_cell BK115.out 2).trans rfl
                                  have hcz45_3 : wc.cell? ⟨gb115, 3, none⟩ = some (.int .i64 0) := (blk_cell BK115.out 3).trans rfl
                                  have hcz45_4 : wc.cell? ⟨gb115, 4, none⟩ = some (.bool false) := (blk_cell BK115.out 4).trans rfl
                                  have hcz45_5 : wc.cell? ⟨gb115, 5, none⟩ = some (.bool false) := (blk_cell BK115.out 5).trans rfl
                                  have hfz45_0 := blk_frozen BK115.out 0
                                  have hfz45_1 := blk_frozen BK115.out 1
                                  have hfz45_2 := blk_frozen BK115.out 2
                                  have hfz45_3 := blk_frozen BK115.out 3
                                  have hfz45_4 := blk_frozen BK115.out 4
                                  have hfz45_5 := blk_frozen BK115.out 5
                                  go_wp2_with (first | ((with_reducible refine gate_store (t := 23) (p := 2) rfl ?_); refine store_event (t := 23) (p := 2) (v := ?vo_w46) (w1 := ((((((wc.setCell ⟨gb115, 0, none⟩ (.string (⟨#[]⟩ : ByteArray))).setCell ⟨gb115, 1, none⟩ (.string (⟨#[]⟩ : ByteArray))).setCell ⟨gb115, 2, none⟩ (.int .i64 0)).setCell ⟨gb115, 3, none⟩ (.int .i64 0)).setCell ⟨gb115, 4, none⟩ (.bool false)).setCell ⟨gb115, 5, none⟩ (.bool false))) ?hg ?ho ?hn ?hr ?_; (case ho => rfl); (case hg => rfl); (case hn => rfl); (case hr => first | (go_simp; done) | (go_simp; rfl)); intro w46 hw; have n0_ : Aside0 (w46.heap[gb115]? = some (.cells #[.string (⟨#[]⟩ : ByteArray), .string (⟨#[]⟩ : ByteArray), .int .i64 0, .int .i64 0, .bool false, .bool false] 23 (0, 0))) := ⟨(by rw [hw]; exact (by (with_reducible repeat (first | refine blk_drewN ?_ _ | refine blk_drew ?_ | refine blk_alloc ?_ _)); refine blk_put (cs := #[.string (⟨#[]⟩ : ByteArray), .string (⟨#[]⟩ : ByteArray), .int .i64 0, .int .i64 0, .bool false, .bool false]) ?_ 5 _ (by first | rfl | (simp only [X.w64_m]; rfl) | (simp only [Go.Proofs.YtbpckmbepgojfaaDoor.X.w64_m]; rfl)); (with_reducible repeat (first | refine blk_drewN ?_ _ | refine blk_drew ?_ | refine blk_alloc ?_ _)); refine blk_put (cs := #[.string (⟨#[]⟩ : ByteArray), .string (⟨#[]⟩ : ByteArray), .int .i64 0, .int .i64 0, .bool false, .bool false]) ?_ 4 _ (by first | rfl | (simp only [X.w64_m]; rfl) | (simp only [Go.Proofs.YtbpckmbepgojfaaDoor.X.w64_m]; rfl)); (with_reducible repeat (first | refine blk_drewN ?_ _ | refine blk_drew ?_ | refine blk_alloc ?_ _)); refine blk_put (cs := #[.string (⟨#[]⟩ : ByteArray), .string (⟨#[]⟩ : ByteArray), .int .i64 0, .int .i64 0, .bool false, .bool false]) ?_ 3 _ (by first | rfl | (simp only [X.w64_m]; rfl) | (simp only [Go.Proofs.YtbpckmbepgojfaaDoor.X.w64_m]; rfl)); (with_reducible repeat (first | refine blk_drewN ?_ _ | refine blk_drew ?_ | refine blk_alloc ?_ _)); refine blk_put (cs := #[.string (⟨#[]⟩ : ByteArray), .string (⟨#[]⟩ : ByteArray), .int .i64 0, .int .i64 0, .bool false, .bool false]) ?_ 2 _ (by first | rfl | (simp only [X.w64_m]; rfl) | (simp only [Go.Proofs.YtbpckmbepgojfaaDoor.X.w64_m]; rfl)); (with_reducible repeat (first | refine blk_drewN ?_ _ | refine blk_drew ?_ | refine blk_alloc ?_ _)); refine blk_put (cs := #[.string (⟨#[]⟩ : ByteArray), .string (⟨#[]⟩ : ByteArray), .int .i64 0, .int .i64 0, .bool false, .bool false]) ?_ 1 _ (by first | rfl | (simp only [X.w64_m]; rfl) | (simp only [Go.Proofs.YtbpckmbepgojfaaDoor.X.w64_m]; rfl)); (with_reducible repeat (first | refine blk_drewN ?_ _ | refine blk_drew ?_ | refine blk_alloc ?_ _)); refine blk_put (cs := #[.string (⟨#[]⟩ : ByteArray), .string (⟨#[]⟩ : ByteArray), .int .i64 0, .int .i64 0, .bool false, .bool false]) ?_ 0 _ (by first | rfl | (simp only [X.w64_m]; rfl) | (simp only [Go.Proofs.YtbpckmbepgojfaaDoor.X.w64_m]; rfl)); (with_reducible repeat (first | refine blk_drewN ?_ _ | refine blk_drew ?_ | refine blk_alloc ?_ _)); exact BK115.out))⟩; have n1_ : Aside0 (w46.heap[gb116]? = some (.cells #[.string (⟨#[]⟩ : ByteArray), .string (⟨#[]⟩ : ByteArray), .int .i64 0, .int .i64 ((((bt t118 0) - 65) % 256) + 1), .bool x117004_29, .bool x117005_7] 23 (0, 0))) := ⟨(by rw [hw]; exact (by (with_reducible repeat (first | refine blk_drewN ?_ _ | refine blk_drew ?_ | refine blk_alloc ?_ _)); refine blk_far ?_ NB116_115.out _; (with_reducible repeat (first | refine blk_drewN ?_ _ | refine blk_drew ?_ | refine blk_alloc ?_ _)); refine blk_far ?_ NB116_115.out _; (with_reducible repeat (first | refine blk_drewN ?_ _ | refine blk_drew ?_ | refine blk_alloc ?_ _)); refine blk_far ?_ NB116_115.out _; (with_reducible repeat (first | refine blk_drewN ?_ _ | refine blk_drew ?_ | refine blk_alloc ?_ _)); refine blk_far ?_ NB116_115.out _; (with_reducible repeat (first | refine blk_drewN ?_ _ | refine blk_drew ?_ | refine blk_alloc ?_ _)); refine blk_far ?_ NB116_115.out _; (with_reducible repeat (first | refine blk_drewN ?_ _ | refine blk_drew ?_ | refine blk_alloc ?_ _)); refine blk_far ?_ NB116_115.out _; (with_reducible repeat (first | refine blk_drewN ?_ _ | refine blk_drew ?_ | refine blk_alloc ?_ _)); exact BK116.out))⟩; have n2_ : Aside0 (Below w.heap.size w w46) := ⟨(by rw [hw]; exact (by (repeat (first | (with_reducible first | exact HB.out | apply below_alloc | apply pw_below_drewN | apply below_drew1 | refine below_set ?_ GE115.out | refine below_set ?_ GE116.out) | exact HB.out))))⟩; clear hw; clear BK115; clear BK116; clear HB; have BK115 := n0_; have BK116 := n1_; have HB := n2_; clear n0_ n1_ n2_))
                                  refine bodyPost_ret (results_ct rfl _ _ gb115 23 #[.string (⟨#[]⟩ : ByteArray), .string (⟨#[]⟩ : ByteArray), .int .i64 0, .int .i64 0, .bool false, .bool false] (0, 0) _ rfl (by (with_reducible repeat (first | refine blk_drewN ?_ _ | refine blk_drew ?_ | refine blk_alloc ?_ _)); exact BK115.out) Tryd.underlying23 rfl (by kernel_rfl)) rfl ?_
                                  exact ⟨by first | rfl | (simp [errW_none, errW_some] <;> rfl) | (simp [*, errW_none, errW_some] <;> rfl), by (repeat (first | (with_reducible first | exact HB.out | apply below_alloc | apply pw_below_drewN | apply below_drew1 | refine below_set ?_ GE115.out | refine below_set ?_ GE116.out) | exact HB.out))⟩
                                · replace c43 := Bool.eq_false_iff.mpr c43
                                  subst c43
                                  have H1 : (octavoref08_ParseCell.l0 kj37 x0_29 0 (⟨#[]⟩ : ByteArray) (⟨#[]⟩ : ByteArray) 0 ((((bt t118 0) - 65) % 256) + 1) x117004_29 x117005_7) = some (r1, r2, r3, r4, r5, r6, r7) := by rw [if_neg (show ¬ (false = true) by decide)] at H; exact H
                                  clear H
                                  have H := H1
                                  clear H1
                                  have H' := Aside0.mk H
                                  clear H
                                  go_wp2
                                  go_loopg [5] kj37 (fun kq v5 w' => ∃ (x5_6 : Int) (x116000_6 : ByteArray) (x116001_6 : ByteArray) (x116002_6 : Int) (x116003_6 : Int) (x116004_6 : Bool) (x116005_6 : Bool) (x117002_6 : Int), v5 = .int .i64 x5_6 ∧ Aside0 (octavoref08_ParseCell.l0 kq x0_29 x5_6 (⟨#[]⟩ : ByteArray) (⟨#[]⟩ : ByteArray) x117002_6 ((((bt t118 0) - 65) % 256) + 1) x117004_29 x117005_7 = some (r1, r2, r3, r4, r5, r6, r7)) ∧ Aside0 (kq ≤ kj37) ∧ Aside0 (w'.heap[gb115]? = some (.cells #[.string x116000_6, .string x116001_6, .int .i64 x116002_6, .int .i64 x116003_6, .bool x116004_6, .bool x116005_6] 23 (0, 0))) ∧ Aside0 (w'.heap[gb116]? = some (.cells #[.string (⟨#[]⟩ : ByteArray), .string (⟨#[]⟩ : ByteArray), .int .i64 x117002_6, .int .i64 ((((bt t118 0) - 65) % 256) + 1), .bool x117004_29, .bool x117005_7] 23 (0, 0))) ∧ Aside0 (Below w.heap.size w w'))
                                  case atStart => exact ⟨(0), ((⟨#[]⟩ : ByteArray)), ((⟨#[]⟩ : ByteArray)), (0), (0), (false), (false), (0), (by first | rfl | (simp; done) | (simp [*]; done) | (simp [Go.Proofs.YtbpckmbepgojfaaDoor.X.bne_nil]; done)), H', ⟨Nat.le_refl _⟩, ⟨by (with_reducible repeat (first | refine blk_drewN ?_ _ | refine blk_drew ?_ | refine blk_alloc ?_ _)); exact BK115.out⟩, ⟨by (with_reducible repeat (first | refine blk_drewN ?_ _ | refine blk_drew ?_ | refine blk_alloc ?_ _)); exact BK116.out⟩, ⟨by (repeat (first | (with_reducible first | exact HB.out | apply below_alloc | apply pw_below_drewN | apply below_drew1 | refine below_set ?_ GE115.out | refine below_set ?_ GE116.out) | exact HB.out))⟩⟩
                                  case round =>
                                    clear H'
                                    try clear c1
                                    try clear p1
                                    try clear q1
                                    try clear hx1
                                    try clear qi1
                                    try clear c2
                                    try clear p2
                                    try clear q2
                                    try clear hx2
                                    try clear qi2
                                    try clear c3
                                    try clear c4
                                    try clear p4
                                    try clear q4
                                    try clear hx4
                                    try clear qi4
                                    try clear c5
                                    try clear c5b0
                                    try clear c5b1
                                    try clear c6
                                    try clear c6b0
                                    try clear c6b1
                                    try clear p7
                                    try clear q7
                                    try clear hx7
                                    try clear qi7
                                    try clear c8
                                    try clear c9
                                    try clear c10
                                    try clear c10b0
                                    try clear c10b1
                                    try clear c11
                                    try clear c14
                                    try clear c14b0
                                    try clear c14b1
                                    try clear c15
                                    try clear c15b0
                                    try clear c15b1
                                    try clear p16
                                    try clear q16
                                    try clear hx16
                                    try clear qi16
                                    try clear c18
                                    try clear c19
                                    try clear c22
                                    try clear c22b0
                                    try clear c22b1
                                    try clear c23
                                    try clear c23b0
                                    try clear c23b1
                                    try clear c25
                                    try clear c25b0
                                    try clear c25b1
                                    try clear p26
                                    try clear q26
                                    try clear hx26
                                    try clear qi26
                                    try clear c27
                                    try clear c27b0
                                    try clear c28
                                    try clear c28b0
                                    try clear c28b1
                                    try clear p29
                                    try clear q29
                                    try clear hx29
                                    try clear qi29
                                    try clear c32
                                    try clear c33
                                    try clear c34
                                    try clear c34b0
                                    try clear c34b1
                                    try clear c35
                                    try clear c35b0
                                    try clear c35b1
                                    try clear c36
                                    try clear c39
                                    try clear c39b0
                                    try clear c39b1
                                    try clear c40
                                    try clear c40b0
                                    try clear c40b1
                                    try clear c41
                                    try clear c41b0
                                    try clear c41b1
                                    try clear p42
                                    try clear q42
                                    try clear hx42
                                    try clear qi42
                                    try clear c43
                                    try clear c44
                                    try clear hcz12_0
                                    try clear hcz12_1
                                    try clear hcz12_2
                                    try clear hcz12_3
                                    try clear hcz12_4
                                    try clear hcz12_5
                                    try clear hcz20_0
                                    try clear hcz20_1
                                    try clear hcz20_2
                                    try clear hcz20_3
                                    try clear hcz20_4
                                    try clear hcz20_5
                                    try clear hcz33_0
                                    try clear hcz33_1
                                    try clear hcz33_2
                                    try clear hcz33_3
                                    try clear hcz33_4
                                    try clear hcz33_5
                                    try clear hcz37_0
                                    try clear hcz37_1
                                    try clear hcz37_2
                                    try clear hcz37_3
                                    try clear hcz37_4
                                    try clear hcz37_5
                                    try clear hcz45_0
                                    try clear hcz45_1
                                    try clear hcz45_2
                                    try clear hcz45_3
                                    try clear hcz45_4
                                    try clear hcz45_5
                                    try clear hfz12_0
                                    try clear hfz12_1
                                    try clear hfz12_2
                                    try clear hfz12_3
                                    try clear hfz12_4
                                    try clear hfz12_5
                                    try clear hfz20_0
                                    try clear hfz20_1
                                    try clear hfz20_2
                                    try clear hfz20_3
                                    try clear hfz20_4
                                    try clear hfz20_5
                                    try clear hfz33_0
                                    try clear hfz33_1
                                    try clear hfz33_2
                                    try clear hfz33_3
                                    try clear hfz33_4
                                    try clear hfz33_5
                                    try clear hfz37_0
                                    try clear hfz37_1
                                    try clear hfz37_2
                                    try clear hfz37_3
                                    try clear hfz37_4
                                    try clear hfz37_5
                                    try clear hfz45_0
                                    try clear hfz45_1
                                    try clear hfz45_2
                                    try clear hfz45_3
                                    try clear hfz45_4
                                    try clear hfz45_5
                                    try clear p1
                                    try clear p16
                                    try clear p2
                                    try clear p26
                                    try clear p29
                                    try clear p4
                                    try clear p42
                                    try clear p7
                                    try clear q1
                                    try clear q16
                                    try clear q2
                                    try clear q26
                                    try clear q29
                                    try clear q4
                                    try clear q42
                                    try clear q7
                                    obtain ⟨x5_6, x116000_6, x116001_6, x116002_6, x116003_6, x116004_6, x116005_6, x117002_6, rfl, HA, HK6, BK115, BK116, HB⟩ := hrel
                                    cases gk with
                                    | zero => exact absurd HA.out (by simp [octavoref08_ParseCell.l0])
                                    | succ k6 =>
                                      have H := HA.out
                                      clear HA
                                      simp only [octavoref08_ParseCell.l0] at H
                                      by_cases c47 : x5_6 < (x0_29.size : Int)
                                      · rw [if_pos c47] at H
                                        have c47b0 : decide (x5_6 < (x0_29.size : Int)) = true := decide_eq_true c47
                                        clear c47
                                        by_cases c48 : 0 ≤ x5_6
                                        · rw [if_pos c48] at H
                                          have c48b0 : decide (0 ≤ x5_6) = true := decide_eq_true c48
                                          clear c48
                                          replace H := Option.bind_eq_some_iff.mp H
                                          obtain ⟨t119, A500, H⟩ := H
                                          replace H : (if t119 = true then (octavoref08_ParseCell.l0 k6 x0_29 (wrap64 (x5_6 + 1)) (⟨#[]⟩ : ByteArray) (⟨#[]⟩ : ByteArray) (wrap64 ((wrap64 (10 * x117002_6)) + (((bt x0_29 x5_6) - 48) % 256))) ((((bt t118 0) - 65) % 256) + 1) x117004_29 x117005_7) else (some ((⟨#[]⟩ : ByteArray), (⟨#[]⟩ : ByteArray), 0, 0, false, false, false))) = some (r1, r2, r3, r4, r5, r6, r7) := H
                                          have A50 := Aside0.mk A500
                                          clear A500
                                          by_cases c51 : t119 = true
                                          · subst c51
                                            have H1 : (octavoref08_ParseCell.l0 k6 x0_29 (wrap64 (x5_6 + 1)) (⟨#[]⟩ : ByteArray) (⟨#[]⟩ : ByteArray) (wrap64 ((wrap64 (10 * x117002_6)) + (((bt x0_29 x5_6) - 48) % 256))) ((((bt t118 0) - 65) % 256) + 1) x117004_29 x117005_7) = some (r1, r2, r3, r4, r5, r6, r7) := by rw [if_pos rfl] at H; exact H
                                            clear H
                                            have H := H1
                                            clear H1
                                            have H' := Aside0.mk H
                                            clear H
                                            have p49 : 0 ≤ (x5_6 : Int) := (of_decide_eq_true (by first | (with_reducible assumption) | assumption))
                                            have q49 : x5_6 < (x0_29.size : Int) := (of_decide_eq_true (by first | (with_reducible assumption) | assumption))
                                            have hx49 := bt_at x0_29 x5_6
                                            replace p49 := eq_true p49
                                            replace q49 := eq_true q49
                                            try go_wp2_with (first | ((with_reducible refine gate_callee (f := 34) rfl ?_); refine goesL_ (some 66) rfl rfl Tryd.func34 (by kernel_rfl) rfl #[.int .u8 (bt x0_29 x5_6)] rfl (by (try simp only [List.map_toArray, List.map_cons, List.map_nil]); first | done | rfl | (simp only [List.length_drop, List.length_take]; rfl)) ?_; (with_reducible refine (octavoref08_Digit.calls (bt x0_29 x5_6) true _ A50.out).mono ?_); rintro e w' ⟨rfl, ⟨nd, rfl⟩⟩; refine ⟨_, rfl, ?_⟩; (repeat (rw [drewN_self wr]; generalize hq_ : World.drewN wr _ = wr; have n0_ : Aside0 (wr.heap[gb115]? = some (.cells #[.string x116000_6, .string x116001_6, .int .i64 x116002_6, .int .i64 x116003_6, .bool x116004_6, .bool x116005_6] 23 (0, 0))) := ⟨by rw [← hq_]; exact (by (with_reducible repeat (first | refine blk_drewN ?_ _ | refine blk_drew ?_ | refine blk_alloc ?_ _)); exact BK115.out)⟩; have n1_ : Aside0 (wr.heap[gb116]? = some (.cells #[.string (⟨#[]⟩ : ByteArray), .string (⟨#[]⟩ : ByteArray), .int .i64 x117002_6, .int .i64 ((((bt t118 0) - 65) % 256) + 1), .bool x117004_29, .bool x117005_7] 23 (0, 0))) := ⟨by rw [← hq_]; exact (by (with_reducible repeat (first | refine blk_drewN ?_ _ | refine blk_drew ?_ | refine blk_alloc ?_ _)); exact BK116.out)⟩; have n2_ : Aside0 (Below w.heap.size w wr) := ⟨by rw [← hq_]; exact (by (repeat (first | (with_reducible first | exact HB.out | apply below_alloc | apply pw_below_drewN | apply below_drew1 | refine below_set ?_ GE115.out | refine below_set ?_ GE116.out) | exact HB.out)))⟩; clear BK115 BK116 HB hq_; have BK115 := n0_; have BK116 := n1_; have HB := n2_; clear n0_ n1_ n2_))))
                                            have n0_ := Aside0.mk (blk_drew BK115.out)
                                            have n1_ := Aside0.mk (blk_drew BK116.out)
                                            have n2_ := Aside0.mk (below_drew1 HB.out)
                                            clear BK115
                                            clear BK116
                                            clear HB
                                            have BK115 := n0_
                                            have BK116 := n1_
                                            have HB := n2_
                                            clear n0_ n1_ n2_
                                            have p52 : 0 ≤ (x5_6 : Int) := (of_decide_eq_true (by first | (with_reducible assumption) | assumption))
                                            have q52 : x5_6 < (x0_29.size : Int) := (of_decide_eq_true (by first | (with_reducible assumption) | assumption))
                                            have hx52 := bt_at x0_29 x5_6
                                            replace p52 := eq_true p52
                                            replace q52 := eq_true q52
                                            refine start_ (n := 11) (S := fun w' => w'.cell? ⟨gb116, 0, none⟩ = some (.string (⟨#[]⟩ : ByteArray)) ∧ w'.cell? ⟨gb116, 1, none⟩ = some (.string (⟨#[]⟩ : ByteArray)) ∧ w'.cell? ⟨gb116, 2, none⟩ = some (.int .i64 x117002_6) ∧ w'.cell? ⟨gb116, 3, none⟩ = some (.int .i64 ((((bt t118 0) - 65) % 256) + 1)) ∧ w'.cell? ⟨gb116, 4, none⟩ = some (.bool x117004_29) ∧ w'.cell? ⟨gb116, 5, none⟩ = some (.bool x117005_7)) (ds := [10]) #[false, false, false, false, false, false, false, false, false, false, false] (by kernel_rfl) rfl rfl ⟨(blk_cell BK116.out 0).trans rfl, (blk_cell BK116.out 1).trans rfl, (blk_cell BK116.out 2).trans rfl, (blk_cell BK116.out 3).trans rfl, (blk_cell BK116.out 4).trans rfl, (blk_cell BK116.out 5).trans rfl⟩ (fun hHeld => ?_); refine with_tabW octavoref08_ParseCell.tab19 octavoref08_ParseCell.bits19 (fun HT_ HW_ => ?_)
                                            generalize wr.drew = w53 at BK115 BK116 HB hHeld ⊢
                                            refine pure_ (i := 0) (N := some 69) (v := ?_) (a' := ?_) #[true, false, false, false, false, false, false, false, false, false, false] rfl rfl (any_of HT_.out (by kernel_rfl)) (fun _ _ _ h => h) (Or.inl ⟨by rfl, ?_⟩) ?_ ?_
                                            rotate_left
                                            · intro w'
                                              go_simp
                                              with_reducible rfl
                                            rotate_left
                                            · simp only [Act.put, List.setIfInBounds_toArray, List.set_cons_zero, List.set_cons_succ, i64_w, i32_w]
                                              rfl
                                            refine pure_ (i := 3) (N := some 72) (v := ?_) (a' := ?_) #[true, false, false, true, false, false, false, false, false, false, false] rfl rfl (any_of HT_.out (by kernel_rfl)) (fun _ _ _ h => h) (Or.inl ⟨by rfl, ?_⟩) ?_ ?_
                                            rotate_left
                                            · intro w'
                                              go_simp
                                              with_reducible rfl
                                            rotate_left
                                            · simp only [Act.put, List.setIfInBounds_toArray, List.set_cons_zero, List.set_cons_succ, i64_w, i32_w]
                                              rfl
                                            refine pure_ (i := 4) (N := some 73) (v := ?_) (a' := ?_) #[true, false, false, true, true, false, false, false, false, false, false] rfl rfl (any_of HT_.out (by kernel_rfl)) (fun _ _ _ h => h) (Or.inl ⟨by rfl, ?_⟩) ?_ ?_
                                            rotate_left
                                            · intro w'
                                              go_simp
                                              with_reducible rfl
                                            rotate_left
                                            · simp only [Act.put, List.setIfInBounds_toArray, List.set_cons_zero, List.set_cons_succ, i64_w, i32_w]
                                              rfl
                                            refine take_ (i := 1) (N := some 70) (v := ?_) (a' := ?_) #[true, true, false, true, true, false, false, false, false, false, false] rfl rfl (take_ofW HT_.out HW_.out (by kernel_rfl)) (fun _ _ _ h => h) (Or.inl ⟨by rfl, ?_⟩) hHeld ?_ ?_
                                            rotate_left
                                            · rintro w' ⟨s0, s1, s2, s3, s4, s5⟩
                                              go_simp
                                              with_reducible rfl
                                            rotate_left
                                            · simp only [Act.put, List.setIfInBounds_toArray, List.set_cons_zero, List.set_cons_succ, i64_w, i32_w]
                                              rfl
                                            refine pure_ (i := 2) (N := some 71) (v := ?_) (a' := ?_) #[true, true, true, true, true, false, false, false, false, false, false] rfl rfl (any_of HT_.out (by kernel_rfl)) (fun _ _ _ h => h) (Or.inl ⟨by rfl, ?_⟩) ?_ ?_
                                            rotate_left
                                            · intro w'
                                              go_simp
                                              with_reducible rfl
                                            rotate_left
                                            · simp only [Act.put, List.setIfInBounds_toArray, List.set_cons_zero, List.set_cons_succ, i64_w, i32_w]
                                              rfl
                                            refine take_ (i := 5) (N := some 74) (v := ?_) (a' := ?_) #[true, true, true, true, true, true, false, false, false, false, false] rfl rfl (take_ofW HT_.out HW_.out (by kernel_rfl)) (fun _ _ _ h => h) (Or.inl ⟨by rfl, ?_⟩) hHeld ?_ ?_
                                            rotate_left
                                            · rintro w' ⟨s0, s1, s2, s3, s4, s5⟩
                                              go_simp
                                              with_reducible rfl
                                            rotate_left
                                            · simp only [Act.put, List.setIfInBounds_toArray, List.set_cons_zero, List.set_cons_succ, i64_w, i32_w]
                                              rfl
                                            refine pure_ (i := 6) (N := some 75) (v := ?_) (a' := ?_) #[true, true, true, true, true, true, true, false, false, false, false] rfl rfl (any_of HT_.out (by kernel_rfl)) (fun _ _ _ h => h) (Or.inl ⟨by rfl, ?_⟩) ?_ ?_
                                            rotate_left
                                            · intro w'
                                              go_simp
                                              with_reducible rfl
                                            rotate_left
                                            · simp only [Act.put, List.setIfInBounds_toArray, List.set_cons_zero, List.set_cons_succ, i64_w, i32_w]
                                              rfl
                                            refine pure_ (i := 7) (N := some 76) (v := ?_) (a' := ?_) #[true, true, true, true, true, true, true, true, false, false, false] rfl rfl (any_of HT_.out (by kernel_rfl)) (fun _ _ _ h => h) (Or.inl ⟨by rfl, ?_⟩) ?_ ?_
                                            rotate_left
                                            · intro w'
                                              go_simp
                                              with_reducible rfl
                                            rotate_left
                                            · simp only [Act.put, List.setIfInBounds_toArray, List.set_cons_zero, List.set_cons_succ, i64_w, i32_w]
                                              rfl
                                            refine pure_ (i := 8) (N := some 77) (v := ?_) (a' := ?_) #[true, true, true, true, true, true, true, true, true, false, false] rfl rfl (any_of HT_.out (by kernel_rfl)) (fun _ _ _ h => h) (Or.inl ⟨by rfl, ?_⟩) ?_ ?_
                                            rotate_left
                                            · intro w'
                                              go_simp
                                              with_reducible rfl
                                            rotate_left
                                            · simp only [Act.put, List.setIfInBounds_toArray, List.set_cons_zero, List.set_cons_succ, i64_w, i32_w]
                                              rfl
                                            refine pure_ (i := 9) (N := some 78) (v := ?_) (a' := ?_) #[true, true, true, true, true, true, true, true, true, true, false] rfl rfl (any_of HT_.out (by kernel_rfl)) (fun _ _ _ h => h) (Or.inl ⟨by rfl, ?_⟩) ?_ ?_
                                            rotate_left
                                            · intro w'
                                              go_simp
                                              with_reducible rfl
                                            rotate_left
                                            · simp only [Act.put, List.setIfInBounds_toArray, List.set_cons_zero, List.set_cons_succ, i64_w, i32_w]
                                              rfl
                                            refine last_ (i := 10) (N := none) #[true, true, true, true, true, true, true, true, true, true, true] rfl rfl (one_of HT_.out (by kernel_rfl)) (by decide) (fun K hK => ?_)
                                            have hs54 : w53.cell? ⟨gb116, 2, none⟩ = some (.int .i64 x117002_6) := (blk_cell BK116.out 2).trans rfl
                                            have hfs54 := blk_frozen BK116.out 2
                                            have hns54_0 := NB115_116.out
                                            have hms54_0 := NB116_115.out
                                            refine skip_ (w1 := ?_) (by rfl) rfl ?_ ?_
                                            rotate_left
                                            · go_simp
                                              rfl
                                            refine hK.out _ _ ?_
                                            clear hK K
                                            refine done_ (done_of HT_.out (by kernel_rfl)) ?_
                                            try go_wp2
                                            go_roundg k6
                                            case measure => have := HJ1.out; have := HJ7.out; have := HJ12.out; have := HJ29.out; have := HJ37.out; have := HK6.out; omega
                                            case rel => exact ⟨(wrap64 (x5_6 + 1)), (x116000_6), (x116001_6), (x116002_6), (x116003_6), (x116004_6), (x116005_6), (wrap64 ((wrap64 (10 * x117002_6)) + (((bt x0_29 x5_6) - 48) % 256))), (by first | rfl | (simp; done) | (simp [*]; done) | (simp [Go.Proofs.YtbpckmbepgojfaaDoor.X.bne_nil]; done)), H', ⟨by have := HJ1.out; have := HJ7.out; have := HJ12.out; have := HJ29.out; have := HJ37.out; have := HK6.out; omega⟩, ⟨by (with_reducible repeat (first | refine blk_drewN ?_ _ | refine blk_drew ?_ | refine blk_alloc ?_ _)); refine blk_far ?_ NB115_116.out _; (with_reducible repeat (first | refine blk_drewN ?_ _ | refine blk_drew ?_ | refine blk_alloc ?_ _)); exact BK115.out⟩, ⟨by (with_reducible repeat (first | refine blk_drewN ?_ _ | refine blk_drew ?_ | refine blk_alloc ?_ _)); refine blk_put (cs := #[.string (⟨#[]⟩ : ByteArray), .string (⟨#[]⟩ : ByteArray), .int .i64 x117002_6, .int .i64 ((((bt t118 0) - 65) % 256) + 1), .bool x117004_29, .bool x117005_7]) ?_ 2 _ (by first | rfl | (simp only [X.w64_m]; rfl) | (simp only [Go.Proofs.YtbpckmbepgojfaaDoor.X.w64_m]; rfl)); (with_reducible repeat (first | refine blk_drewN ?_ _ | refine blk_drew ?_ | refine blk_alloc ?_ _)); exact BK116.out⟩, ⟨by (repeat (first | (with_reducible first | exact HB.out | apply below_alloc | apply pw_below_drewN | apply below_drew1 | refine below_set ?_ GE115.out | refine below_set ?_ GE116.out) | exact HB.out))⟩⟩
                                          · replace c51 := Bool.eq_false_iff.mpr c51
                                            subst c51
                                            have H1 : (some ((⟨#[]⟩ : ByteArray), (⟨#[]⟩ : ByteArray), 0, 0, false, false, false)) = some (r1, r2, r3, r4, r5, r6, r7) := by rw [if_neg (show ¬ (false = true) by decide)] at H; exact H
                                            clear H
                                            have H := H1
                                            clear H1
                                            simp only [Option.some.injEq, Prod.mk.injEq] at H
                                            obtain ⟨rfl, rfl, rfl, rfl, rfl, rfl, rfl⟩ := H
                                            have p49 : 0 ≤ (x5_6 : Int) := (of_decide_eq_true (by first | (with_reducible assumption) | assumption))
                                            have q49 : x5_6 < (x0_29.size : Int) := (of_decide_eq_true (by first | (with_reducible assumption) | assumption))
                                            have hx49 := bt_at x0_29 x5_6
                                            replace p49 := eq_true p49
                                            replace q49 := eq_true q49
                                            go_wp2_with (first | ((with_reducible refine gate_callee (f := 34) rfl ?_); refine goesL_ (some 66) rfl rfl Tryd.func34 (by kernel_rfl) rfl #[.int .u8 (bt x0_29 x5_6)] rfl (by (try simp only [List.map_toArray, List.map_cons, List.map_nil]); first | done | rfl | (simp only [List.length_drop, List.length_take]; rfl)) ?_; (with_reducible refine (octavoref08_Digit.calls (bt x0_29 x5_6) false _ A50.out).mono ?_); rintro e w' ⟨rfl, ⟨nd, rfl⟩⟩; refine ⟨_, rfl, ?_⟩; (repeat (rw [drewN_self wr]; generalize hq_ : World.drewN wr _ = wr; have n0_ : Aside0 (wr.heap[gb115]? = some (.cells #[.string x116000_6, .string x116001_6, .int .i64 x116002_6, .int .i64 x116003_6, .bool x116004_6, .bool x116005_6] 23 (0, 0))) := ⟨by rw [← hq_]; exact (by (with_reducible repeat (first | refine blk_drewN ?_ _ | refine blk_drew ?_ | refine blk_alloc ?_ _)); exact BK115.out)⟩; have n1_ : Aside0 (wr.heap[gb116]? = some (.cells #[.string (⟨#[]⟩ : ByteArray), .string (⟨#[]⟩ : ByteArray), .int .i64 x117002_6, .int .i64 ((((bt t118 0) - 65) % 256) + 1), .bool x117004_29, .bool x117005_7] 23 (0, 0))) := ⟨by rw [← hq_]; exact (by (with_reducible repeat (first | refine blk_drewN ?_ _ | refine blk_drew ?_ | refine blk_alloc ?_ _)); exact BK116.out)⟩; have n2_ : Aside0 (Below w.heap.size w wr) := ⟨by rw [← hq_]; exact (by (repeat (first | (with_reducible first | exact HB.out | apply below_alloc | apply pw_below_drewN | apply below_drew1 | refine below_set ?_ GE115.out | refine below_set ?_ GE116.out) | exact HB.out)))⟩; clear BK115 BK116 HB hq_; have BK115 := n0_; have BK116 := n1_; have HB := n2_; clear n0_ n1_ n2_)); have hnb55 := NB115_116.out; have hnc55 := NB116_115.out; have hcz56_0 : wr.cell? ⟨gb115, 0, none⟩ = some (.string x116000_6) := (blk_cell BK115.out 0).trans rfl; have hcz56_1 : wr.cell? ⟨gb115, 1, none⟩ = some (.string x116001_6) := (blk_cell BK115.out 1).trans rfl; have hcz56_2 : wr.cell? ⟨gb115, 2, none⟩ = some (.int .i64 x116002_6) := (blk_cell BK115.out 2).trans rfl; have hcz56_3 : wr.cell? ⟨gb115, 3, none⟩ = some (.int .i64 x116003_6) := (blk_cell BK115.out 3).trans rfl; have hcz56_4 : wr.cell? ⟨gb115, 4, none⟩ = some (.bool x116004_6) := (blk_cell BK115.out 4).trans rfl; have hcz56_5 : wr.cell? ⟨gb115, 5, none⟩ = some (.bool x116005_6) := (blk_cell BK115.out 5).trans rfl; have hfz56_0 := blk_frozen BK115.out 0; have hfz56_1 := blk_frozen BK115.out 1; have hfz56_2 := blk_frozen BK115.out 2; have hfz56_3 := blk_frozen BK115.out 3; have hfz56_4 := blk_frozen BK115.out 4; have hfz56_5 := blk_frozen BK115.out 5) | ((with_reducible refine gate_store (t := 23) (p := 2) rfl ?_); refine store_event (t := 23) (p := 2) (v := ?vo_w57) (w1 := ((((((wr.setCell ⟨gb115, 0, none⟩ (.string (⟨#[]⟩ : ByteArray))).setCell ⟨gb115, 1, none⟩ (.string (⟨#[]⟩ : ByteArray))).setCell ⟨gb115, 2, none⟩ (.int .i64 0)).setCell ⟨gb115, 3, none⟩ (.int .i64 0)).setCell ⟨gb115, 4, none⟩ (.bool false)).setCell ⟨gb115, 5, none⟩ (.bool false))) ?hg ?ho ?hn ?hr ?_; (case ho => rfl); (case hg => rfl); (case hn => rfl); (case hr => first | (go_simp; done) | (go_simp; rfl)); intro w57 hw; have n0_ : Aside0 (w57.heap[gb115]? = some (.cells #[.string (⟨#[]⟩ : ByteArray), .string (⟨#[]⟩ : ByteArray), .int .i64 0, .int .i64 0, .bool false, .bool false] 23 (0, 0))) := ⟨(by rw [hw]; exact (by (with_reducible repeat (first | refine blk_drewN ?_ _ | refine blk_drew ?_ | refine blk_alloc ?_ _)); refine blk_put (cs := #[.string (⟨#[]⟩ : ByteArray), .string (⟨#[]⟩ : ByteArray), .int .i64 0, .int .i64 0, .bool false, .bool x116005_6]) ?_ 5 _ (by first | rfl | (simp only [X.w64_m]; rfl) | (simp only [Go.Proofs.YtbpckmbepgojfaaDoor.X.w64_m]; rfl)); (with_reducible repeat (first | refine blk_drewN ?_ _ | refine blk_drew ?_ | refine blk_alloc ?_ _)); refine blk_put (cs := #[.string (⟨#[]⟩ : ByteArray), .string (⟨#[]⟩ : ByteArray), .int .i64 0, .int .i64 0, .bool x116004_6, .bool x116005_6]) ?_ 4 _ (by first | rfl | (simp only [X.w64_m]; rfl) | (simp only [Go.Proofs.YtbpckmbepgojfaaDoor.X.w64_m]; rfl)); (with_reducible repeat (first | refine blk_drewN ?_ _ | refine blk_drew ?_ | refine blk_alloc ?_ _)); refine blk_put (cs := #[.string (⟨#[]⟩ : ByteArray), .string (⟨#[]⟩ : ByteArray), .int .i64 0, .int .i64 x116003_6, .bool x116004_6, .bool x116005_6]) ?_ 3 _ (by first | rfl | (simp only [X.w64_m]; rfl) | (simp only [Go.Proofs.YtbpckmbepgojfaaDoor.X.w64_m]; rfl)); (with_reducible repeat (first | refine blk_drewN ?_ _ | refine blk_drew ?_ | refine blk_alloc ?_ _)); refine blk_put (cs := #[.string (⟨#[]⟩ : ByteArray), .string (⟨#[]⟩ : ByteArray), .int .i64 x116002_6, .int .i64 x116003_6, .bool x116004_6, .bool x116005_6]) ?_ 2 _ (by first | rfl | (simp only [X.w64_m]; rfl) | (simp only [Go.Proofs.YtbpckmbepgojfaaDoor.X.w64_m]; rfl)); (with_reducible repeat (first | refine blk_drewN ?_ _ | refine blk_drew ?_ | refine blk_alloc ?_ _)); refine blk_put (cs := #[.string (⟨#[]⟩ : ByteArray), .string x116001_6, .int .i64 x116002_6, .int .i64 x116003_6, .bool x116004_6, .bool x116005_6]) ?_ 1 _ (by first | rfl | (simp only [X.w64_m]; rfl) | (simp only [Go.Proofs.YtbpckmbepgojfaaDoor.X.w64_m]; rfl)); (with_reducible repeat (first | refine blk_drewN ?_ _ | refine blk_drew ?_ | refine blk_alloc ?_ _)); refine blk_put (cs := #[.string x116000_6, .string x116001_6, .int .i64 x116002_6, .int .i64 x116003_6, .bool x116004_6, .bool x116005_6]) ?_ 0 _ (by first | rfl | (simp only [X.w64_m]; rfl) | (simp only [Go.Proofs.YtbpckmbepgojfaaDoor.X.w64_m]; rfl)); (with_reducible repeat (first | refine blk_drewN ?_ _ | refine blk_drew ?_ | refine blk_alloc ?_ _)); exact BK115.out))⟩; have n1_ : Aside0 (w57.heap[gb116]? = some (.cells #[.string (⟨#[]⟩ : ByteArray), .string (⟨#[]⟩ : ByteArray), .int .i64 x117002_6, .int .i64 ((((bt t118 0) - 65) % 256) + 1), .bool x117004_29, .bool x117005_7] 23 (0, 0))) := ⟨(by rw [hw]; exact (by (with_reducible repeat (first | refine blk_drewN ?_ _ | refine blk_drew ?_ | refine blk_alloc ?_ _)); refine blk_far ?_ NB116_115.out _; (with_reducible repeat (first | refine blk_drewN ?_ _ | refine blk_drew ?_ | refine blk_alloc ?_ _)); refine blk_far ?_ NB116_115.out _; (with_reducible repeat (first | refine blk_drewN ?_ _ | refine blk_drew ?_ | refine blk_alloc ?_ _)); refine blk_far ?_ NB116_115.out _; (with_reducible repeat (first | refine blk_drewN ?_ _ | refine blk_drew ?_ | refine blk_alloc ?_ _)); refine blk_far ?_ NB116_115.out _; (with_reducible repeat (first | refine blk_drewN ?_ _ | refine blk_drew ?_ | refine blk_alloc ?_ _)); refine blk_far ?_ NB116_115.out _; (with_reducible repeat (first | refine blk_drewN ?_ _ | refine blk_drew ?_ | refine blk_alloc ?_ _)); refine blk_far ?_ NB116_115.out _; (with_reducible repeat (first | refine blk_drewN ?_ _ | refine blk_drew ?_ | refine blk_alloc ?_ _)); exact BK116.out))⟩; have n2_ : Aside0 (Below w.heap.size w w57) := ⟨(by rw [hw]; exact (by (repeat (first | (with_reducible first | exact HB.out | apply below_alloc | apply pw_below_drewN | apply below_drew1 | refine below_set ?_ GE115.out | refine below_set ?_ GE116.out) | exact HB.out))))⟩; clear hw; clear BK115; clear BK116; clear HB; have BK115 := n0_; have BK116 := n1_; have HB := n2_; clear n0_ n1_ n2_))
                                            refine bodyPost_ret (results_ct rfl _ _ gb115 23 #[.string (⟨#[]⟩ : ByteArray), .string (⟨#[]⟩ : ByteArray), .int .i64 0, .int .i64 0, .bool false, .bool false] (0, 0) _ rfl (by (with_reducible repeat (first | refine blk_drewN ?_ _ | refine blk_drew ?_ | refine blk_alloc ?_ _)); exact BK115.out) Tryd.underlying23 rfl (by kernel_rfl)) rfl ?_
                                            exact ⟨by first | rfl | (simp [errW_none, errW_some] <;> rfl) | (simp [*, errW_none, errW_some] <;> rfl), by (repeat (first | (with_reducible first | exact HB.out | apply below_alloc | apply pw_below_drewN | apply below_drew1 | refine below_set ?_ GE115.out | refine below_set ?_ GE116.out) | exact HB.out))⟩
                                        · rw [if_neg c48] at H
                                          exact absurd H (by simp)
                                      · rw [if_neg c47] at H
                                        have c47b0 : decide (x5_6 < (x0_29.size : Int)) = false := decide_eq_false c47
                                        clear c47
                                        replace H := Option.bind_eq_some_iff.mp H
                                        obtain ⟨t120, A580, H⟩ := H
                                        replace H : (if t120 = true then (some ((⟨#[]⟩ : ByteArray), (⟨#[]⟩ : ByteArray), x117002_6, ((((bt t118 0) - 65) % 256) + 1), x117004_29, x117005_7, true)) else (some ((⟨#[]⟩ : ByteArray), (⟨#[]⟩ : ByteArray), 0, 0, false, false, false))) = some (r1, r2, r3, r4, r5, r6, r7) := H
                                        have A58 := Aside0.mk A580
                                        clear A580
                                        by_cases c59 : t120 = true
                                        · subst c59
                                          have H1 : (some ((⟨#[]⟩ : ByteArray), (⟨#[]⟩ : ByteArray), x117002_6, ((((bt t118 0) - 65) % 256) + 1), x117004_29, x117005_7, true)) = some (r1, r2, r3, r4, r5, r6, r7) := by rw [if_pos rfl] at H; exact H
                                          clear H
                                          have H := H1
                                          clear H1
                                          simp only [Option.some.injEq, Prod.mk.injEq] at H
                                          obtain ⟨rfl, rfl, rfl, rfl, rfl, rfl, rfl⟩ := H
                                          have hnb60 := NB116_115.out
                                          have hnc60 := NB115_116.out
                                          have hcz61_0 : wr.cell? ⟨gb116, 0, none⟩ = some (.string (⟨#[]⟩ : ByteArray)) := (blk_cell BK116.out 0).trans rfl
                                          have hcz61_1 : wr.cell? ⟨gb116, 1, none⟩ = some (.string (⟨#[]⟩ : ByteArray)) := (blk_cell BK116.out 1).trans rfl
                                          have hcz61_2 : wr.cell? ⟨gb116, 2, none⟩ = some (.int .i64 x117002_6) := (blk_cell BK116.out 2).trans rfl
                                          have hcz61_3 : wr.cell? ⟨gb116, 3, none⟩ = some (.int .i64 ((((bt t118 0) - 65) % 256) + 1)) := (blk_cell BK116.out 3).trans rfl
                                          have hcz61_4 : wr.cell? ⟨gb116, 4, none⟩ = some (.bool x117004_29) := (blk_cell BK116.out 4).trans rfl
                                          have hcz61_5 : wr.cell? ⟨gb116, 5, none⟩ = some (.bool x117005_7) := (blk_cell BK116.out 5).trans rfl
                                          have hfz61_0 := blk_frozen BK116.out 0
                                          have hfz61_1 := blk_frozen BK116.out 1
                                          have hfz61_2 := blk_frozen BK116.out 2
                                          have hfz61_3 := blk_frozen BK116.out 3
                                          have hfz61_4 := blk_frozen BK116.out 4
                                          have hfz61_5 := blk_frozen BK116.out 5
                                          go_wp2_with (first | ((with_reducible refine gate_callee (f := 35) rfl ?_); refine goesL_ (some 83) rfl rfl Tryd.func35 (by kernel_rfl) rfl #[.int .i64 x117002_6, .int .i64 ((((bt t118 0) - 65) % 256) + 1)] rfl (by (try simp only [List.map_toArray, List.map_cons, List.map_nil]); first | done | rfl | (simp only [List.length_drop, List.length_take]; rfl)) ?_; (with_reducible refine (octavoref08_in.calls x117002_6 ((((bt t118 0) - 65) % 256) + 1) true _ A58.out).mono ?_); rintro e w' ⟨rfl, ⟨nd, rfl⟩⟩; refine ⟨_, rfl, ?_⟩; (repeat (rw [drewN_self wr]; generalize hq_ : World.drewN wr _ = wr; have n0_ : Aside0 (wr.heap[gb115]? = some (.cells #[.string x116000_6, .string x116001_6, .int .i64 x116002_6, .int .i64 x116003_6, .bool x116004_6, .bool x116005_6] 23 (0, 0))) := ⟨by rw [← hq_]; exact (by (with_reducible repeat (first | refine blk_drewN ?_ _ | refine blk_drew ?_ | refine blk_alloc ?_ _)); exact BK115.out)⟩; have n1_ : Aside0 (wr.heap[gb116]? = some (.cells #[.string (⟨#[]⟩ : ByteArray), .string (⟨#[]⟩ : ByteArray), .int .i64 x117002_6, .int .i64 ((((bt t118 0) - 65) % 256) + 1), .bool x117004_29, .bool x117005_7] 23 (0, 0))) := ⟨by rw [← hq_]; exact (by (with_reducible repeat (first | refine blk_drewN ?_ _ | refine blk_drew ?_ | refine blk_alloc ?_ _)); exact BK116.out)⟩; have n2_ : Aside0 (Below w.heap.size w wr) := ⟨by rw [← hq_]; exact (by (repeat (first | (with_reducible first | exact HB.out | apply below_alloc | apply pw_below_drewN | apply below_drew1 | refine below_set ?_ GE115.out | refine below_set ?_ GE116.out) | exact HB.out)))⟩; clear BK115 BK116 HB hq_; have BK115 := n0_; have BK116 := n1_; have HB := n2_; clear n0_ n1_ n2_)); have hcz62_0 : wr.cell? ⟨gb116, 0, none⟩ = some (.string (⟨#[]⟩ : ByteArray)) := (blk_cell BK116.out 0).trans rfl; have hcz62_1 : wr.cell? ⟨gb116, 1, none⟩ = some (.string (⟨#[]⟩ : ByteArray)) := (blk_cell BK116.out 1).trans rfl; have hcz62_2 : wr.cell? ⟨gb116, 2, none⟩ = some (.int .i64 x117002_6) := (blk_cell BK116.out 2).trans rfl; have hcz62_3 : wr.cell? ⟨gb116, 3, none⟩ = some (.int .i64 ((((bt t118 0) - 65) % 256) + 1)) := (blk_cell BK116.out 3).trans rfl; have hcz62_4 : wr.cell? ⟨gb116, 4, none⟩ = some (.bool x117004_29) := (blk_cell BK116.out 4).trans rfl; have hcz62_5 : wr.cell? ⟨gb116, 5, none⟩ = some (.bool x117005_7) := (blk_cell BK116.out 5).trans rfl; have hfz62_0 := blk_frozen BK116.out 0; have hfz62_1 := blk_frozen BK116.out 1; have hfz62_2 := blk_frozen BK116.out 2; have hfz62_3 := blk_frozen BK116.out 3; have hfz62_4 := blk_frozen BK116.out 4; have hfz62_5 := blk_frozen BK116.out 5; have hcz63_0 : wr.cell? ⟨gb115, 0, none⟩ = some (.string x116000_6) := (blk_cell BK115.out 0).trans rfl; have hcz63_1 : wr.cell? ⟨gb115, 1, none⟩ = some (.string x116001_6) := (blk_cell BK115.out 1).trans rfl; have hcz63_2 : wr.cell? ⟨gb115, 2, none⟩ = some (.int .i64 x116002_6) := (blk_cell BK115.out 2).trans rfl; have hcz63_3 : wr.cell? ⟨gb115, 3, none⟩ = some (.int .i64 x116003_6) := (blk_cell BK115.out 3).trans rfl; have hcz63_4 : wr.cell? ⟨gb115, 4, none⟩ = some (.bool x116004_6) := (blk_cell BK115.out 4).trans rfl; have hcz63_5 : wr.cell? ⟨gb115, 5, none⟩ = some (.bool x116005_6) := (blk_cell BK115.out 5).trans rfl; have hfz63_0 := blk_frozen BK115.out 0; have hfz63_1 := blk_frozen BK115.out 1; have hfz63_2 := blk_frozen BK115.out 2; have hfz63_3 := blk_frozen BK115.out 3; have hfz63_4 := blk_frozen BK115.out 4; have hfz63_5 := blk_frozen BK115.out 5) | ((with_reducible refine gate_store (t := 23) (p := 2) rfl ?_); refine store_event (t := 23) (p := 2) (v := ?vo_w64) (w1 := ((((((wr.setCell ⟨gb115, 0, none⟩ (.string (⟨#[]⟩ : ByteArray))).setCell ⟨gb115, 1, none⟩ (.string (⟨#[]⟩ : ByteArray))).setCell ⟨gb115, 2, none⟩ (.int .i64 x117002_6)).setCell ⟨gb115, 3, none⟩ (.int .i64 ((((bt t118 0) - 65) % 256) + 1))).setCell ⟨gb115, 4, none⟩ (.bool x117004_29)).setCell ⟨gb115, 5, none⟩ (.bool x117005_7))) ?hg ?ho ?hn ?hr ?_; (case ho => rfl); (case hg => rfl); (case hn => rfl); (case hr => first | (go_simp; done) | (go_simp; rfl)); intro w64 hw; have n0_ : Aside0 (w64.heap[gb115]? = some (.cells #[.string (⟨#[]⟩ : ByteArray), .string (⟨#[]⟩ : ByteArray), .int .i64 x117002_6, .int .i64 ((((bt t118 0) - 65) % 256) + 1), .bool x117004_29, .bool x117005_7] 23 (0, 0))) := ⟨(by rw [hw]; exact (by (with_reducible repeat (first | refine blk_drewN ?_ _ | refine blk_drew ?_ | refine blk_alloc ?_ _)); refine blk_put (cs := #[.string (⟨#[]⟩ : ByteArray), .string (⟨#[]⟩ : ByteArray), .int .i64 x117002_6, .int .i64 ((((bt t118 0) - 65) % 256) + 1), .bool x117004_29, .bool x116005_6]) ?_ 5 _ (by first | rfl | (simp only [X.w64_m]; rfl) | (simp only [Go.Proofs.YtbpckmbepgojfaaDoor.X.w64_m]; rfl)); (with_reducible repeat (first | refine blk_drewN ?_ _ | refine blk_drew ?_ | refine blk_alloc ?_ _)); refine blk_put (cs := #[.string (⟨#[]⟩ : ByteArray), .string (⟨#[]⟩ : ByteArray), .int .i64 x117002_6, .int .i64 ((((bt t118 0) - 65) % 256) + 1), .bool x116004_6, .bool x116005_6]) ?_ 4 _ (by first | rfl | (simp only [X.w64_m]; rfl) | (simp only [Go.Proofs.YtbpckmbepgojfaaDoor.X.w64_m]; rfl)); (with_reducible repeat (first | refine blk_drewN ?_ _ | refine blk_drew ?_ | refine blk_alloc ?_ _)); refine blk_put (cs := #[.string (⟨#[]⟩ : ByteArray), .string (⟨#[]⟩ : ByteArray), .int .i64 x117002_6, .int .i64 x116003_6, .bool x116004_6, .bool x116005_6]) ?_ 3 _ (by first | rfl | (simp only [X.w64_m]; rfl) | (simp only [Go.Proofs.YtbpckmbepgojfaaDoor.X.w64_m]; rfl)); (with_reducible repeat (first | refine blk_drewN ?_ _ | refine blk_drew ?_ | refine blk_alloc ?_ _)); refine blk_put (cs := #[.string (⟨#[]⟩ : ByteArray), .string (⟨#[]⟩ : ByteArray), .int .i64 x116002_6, .int .i64 x116003_6, .bool x116004_6, .bool x116005_6]) ?_ 2 _ (by first | rfl | (simp only [X.w64_m]; rfl) | (simp only [Go.Proofs.YtbpckmbepgojfaaDoor.X.w64_m]; rfl)); (with_reducible repeat (first | refine blk_drewN ?_ _ | refine blk_drew ?_ | refine blk_alloc ?_ _)); refine blk_put (cs := #[.string (⟨#[]⟩ : ByteArray), .string x116001_6, .int .i64 x116002_6, .int .i64 x116003_6, .bool x116004_6, .bool x116005_6]) ?_ 1 _ (by first | rfl | (simp only [X.w64_m]; rfl) | (simp only [Go.Proofs.YtbpckmbepgojfaaDoor.X.w64_m]; rfl)); (with_reducible repeat (first | refine blk_drewN ?_ _ | refine blk_drew ?_ | refine blk_alloc ?_ _)); refine blk_put (cs := #[.string x116000_6, .string x116001_6, .int .i64 x116002_6, .int .i64 x116003_6, .bool x116004_6, .bool x116005_6]) ?_ 0 _ (by first | rfl | (simp only [X.w64_m]; rfl) | (simp only [Go.Proofs.YtbpckmbepgojfaaDoor.X.w64_m]; rfl)); (with_reducible repeat (first | refine blk_drewN ?_ _ | refine blk_drew ?_ | refine blk_alloc ?_ _)); exact BK115.out))⟩; have n1_ : Aside0 (w64.heap[gb116]? = some (.cells #[.string (⟨#[]⟩ : ByteArray), .string (⟨#[]⟩ : ByteArray), .int .i64 x117002_6, .int .i64 ((((bt t118 0) - 65) % 256) + 1), .bool x117004_29, .bool x117005_7] 23 (0, 0))) := ⟨(by rw [hw]; exact (by (with_reducible repeat (first | refine blk_drewN ?_ _ | refine blk_drew ?_ | refine blk_alloc ?_ _)); refine blk_far ?_ NB116_115.out _; (with_reducible repeat (first | refine blk_drewN ?_ _ | refine blk_drew ?_ | refine blk_alloc ?_ _)); refine blk_far ?_ NB116_115.out _; (with_reducible repeat (first | refine blk_drewN ?_ _ | refine blk_drew ?_ | refine blk_alloc ?_ _)); refine blk_far ?_ NB116_115.out _; (with_reducible repeat (first | refine blk_drewN ?_ _ | refine blk_drew ?_ | refine blk_alloc ?_ _)); refine blk_far ?_ NB116_115.out _; (with_reducible repeat (first | refine blk_drewN ?_ _ | refine blk_drew ?_ | refine blk_alloc ?_ _)); refine blk_far ?_ NB116_115.out _; (with_reducible repeat (first | refine blk_drewN ?_ _ | refine blk_drew ?_ | refine blk_alloc ?_ _)); refine blk_far ?_ NB116_115.out _; (with_reducible repeat (first | refine blk_drewN ?_ _ | refine blk_drew ?_ | refine blk_alloc ?_ _)); exact BK116.out))⟩; have n2_ : Aside0 (Below w.heap.size w w64) := ⟨(by rw [hw]; exact (by (repeat (first | (with_reducible first | exact HB.out | apply below_alloc | apply pw_below_drewN | apply below_drew1 | refine below_set ?_ GE115.out | refine below_set ?_ GE116.out) | exact HB.out))))⟩; clear hw; clear BK115; clear BK116; clear HB; have BK115 := n0_; have BK116 := n1_; have HB := n2_; clear n0_ n1_ n2_))
                                          refine bodyPost_ret (results_ct rfl _ _ gb115 23 #[.string (⟨#[]⟩ : ByteArray), .string (⟨#[]⟩ : ByteArray), .int .i64 x117002_6, .int .i64 ((((bt t118 0) - 65) % 256) + 1), .bool x117004_29, .bool x117005_7] (0, 0) _ rfl (by (with_reducible repeat (first | refine blk_drewN ?_ _ | refine blk_drew ?_ | refine blk_alloc ?_ _)); exact BK115.out) Tryd.underlying23 rfl (by kernel_rfl)) rfl ?_
                                          exact ⟨by first | rfl | (simp [errW_none, errW_some] <;> rfl) | (simp [*, errW_none, errW_some] <;> rfl), by (repeat (first | (with_reducible first | exact HB.out | apply below_alloc | apply pw_below_drewN | apply below_drew1 | refine below_set ?_ GE115.out | refine below_set ?_ GE116.out) | exact HB.out))⟩
                                        · replace c59 := Bool.eq_false_iff.mpr c59
                                          subst c59
                                          have H1 : (some ((⟨#[]⟩ : ByteArray), (⟨#[]⟩ : ByteArray), 0, 0, false, false, false)) = some (r1, r2, r3, r4, r5, r6, r7) := by rw [if_neg (show ¬ (false = true) by decide)] at H; exact H
                                          clear H
                                          have H := H1
                                          clear H1
                                          simp only [Option.some.injEq, Prod.mk.injEq] at H
                                          obtain ⟨rfl, rfl, rfl, rfl, rfl, rfl, rfl⟩ := H
                                          have hnb65 := NB116_115.out
                                          have hnc65 := NB115_116.out
                                          have hcz66_0 : wr.cell? ⟨gb116, 0, none⟩ = some (.string (⟨#[]⟩ : ByteArray)) := (blk_cell BK116.out 0).trans rfl
                                          have hcz66_1 : wr.cell? ⟨gb116, 1, none⟩ = some (.string (⟨#[]⟩ : ByteArray)) := (blk_cell BK116.out 1).trans rfl
                                          have hcz66_2 : wr.cell? ⟨gb116, 2, none⟩ = some (.int .i64 x117002_6) := (blk_cell BK116.out 2).trans rfl
                                          have hcz66_3 : wr.cell? ⟨gb116, 3, none⟩ = some (.int .i64 ((((bt t118 0) - 65) % 256) + 1)) := (blk_cell BK116.out 3).trans rfl
                                          have hcz66_4 : wr.cell? ⟨gb116, 4, none⟩ = some (.bool x117004_29) := (blk_cell BK116.out 4).trans rfl
                                          have hcz66_5 : wr.cell? ⟨gb116, 5, none⟩ = some (.bool x117005_7) := (blk_cell BK116.out 5).trans rfl
                                          have hfz66_0 := blk_frozen BK116.out 0
                                          have hfz66_1 := blk_frozen BK116.out 1
                                          have hfz66_2 := blk_frozen BK116.out 2
                                          have hfz66_3 := blk_frozen BK116.out 3
                                          have hfz66_4 := blk_frozen BK116.out 4
                                          have hfz66_5 := blk_frozen BK116.out 5
                                          go_wp2_with (first | ((with_reducible refine gate_callee (f := 35) rfl ?_); refine goesL_ (some 83) rfl rfl Tryd.func35 (by kernel_rfl) rfl #[.int .i64 x117002_6, .int .i64 ((((bt t118 0) - 65) % 256) + 1)] rfl (by (try simp only [List.map_toArray, List.map_cons, List.map_nil]); first | done | rfl | (simp only [List.length_drop, List.length_take]; rfl)) ?_; (with_reducible refine (octavoref08_in.calls x117002_6 ((((bt t118 0) - 65) % 256) + 1) false _ A58.out).mono ?_); rintro e w' ⟨rfl, ⟨nd, rfl⟩⟩; refine ⟨_, rfl, ?_⟩; (repeat (rw [drewN_self wr]; generalize hq_ : World.drewN wr _ = wr; have n0_ : Aside0 (wr.heap[gb115]? = some (.cells #[.string x116000_6, .string x116001_6, .int .i64 x116002_6, .int .i64 x116003_6, .bool x116004_6, .bool x116005_6] 23 (0, 0))) := ⟨by rw [← hq_]; exact (by (with_reducible repeat (first | refine blk_drewN ?_ _ | refine blk_drew ?_ | refine blk_alloc ?_ _)); exact BK115.out)⟩; have n1_ : Aside0 (wr.heap[gb116]? = some (.cells #[.string (⟨#[]⟩ : ByteArray), .string (⟨#[]⟩ : ByteArray), .int .i64 x117002_6, .int .i64 ((((bt t118 0) - 65) % 256) + 1), .bool x117004_29, .bool x117005_7] 23 (0, 0))) := ⟨by rw [← hq_]; exact (by (with_reducible repeat (first | refine blk_drewN ?_ _ | refine blk_drew ?_ | refine blk_alloc ?_ _)); exact BK116.out)⟩; have n2_ : Aside0 (Below w.heap.size w wr) := ⟨by rw [← hq_]; exact (by (repeat (first | (with_reducible first | exact HB.out | apply below_alloc | apply pw_below_drewN | apply below_drew1 | refine below_set ?_ GE115.out | refine below_set ?_ GE116.out) | exact HB.out)))⟩; clear BK115 BK116 HB hq_; have BK115 := n0_; have BK116 := n1_; have HB := n2_; clear n0_ n1_ n2_)); have hcz67_0 : wr.cell? ⟨gb115, 0, none⟩ = some (.string x116000_6) := (blk_cell BK115.out 0).trans rfl; have hcz67_1 : wr.cell? ⟨gb115, 1, none⟩ = some (.string x116001_6) := (blk_cell BK115.out 1).trans rfl; have hcz67_2 : wr.cell? ⟨gb115, 2, none⟩ = some (.int .i64 x116002_6) := (blk_cell BK115.out 2).trans rfl; have hcz67_3 : wr.cell? ⟨gb115, 3, none⟩ = some (.int .i64 x116003_6) := (blk_cell BK115.out 3).trans rfl; have hcz67_4 : wr.cell? ⟨gb115, 4, none⟩ = some (.bool x116004_6) := (blk_cell BK115.out 4).trans rfl; have hcz67_5 : wr.cell? ⟨gb115, 5, none⟩ = some (.bool x116005_6) := (blk_cell BK115.out 5).trans rfl; have hfz67_0 := blk_frozen BK115.out 0; have hfz67_1 := blk_frozen BK115.out 1; have hfz67_2 := blk_frozen BK115.out 2; have hfz67_3 := blk_frozen BK115.out 3; have hfz67_4 := blk_frozen BK115.out 4; have hfz67_5 := blk_frozen BK115.out 5) | ((with_reducible refine gate_store (t := 23) (p := 2) rfl ?_); refine store_event (t := 23) (p := 2) (v := ?vo_w68) (w1 := ((((((wr.setCell ⟨gb115, 0, none⟩ (.string (⟨#[]⟩ : ByteArray))).setCell ⟨gb115, 1, none⟩ (.string (⟨#[]⟩ : ByteArray))).setCell ⟨gb115, 2, none⟩ (.int .i64 0)).setCell ⟨gb115, 3, none⟩ (.int .i64 0)).setCell ⟨gb115, 4, none⟩ (.bool false)).setCell ⟨gb115, 5, none⟩ (.bool false))) ?hg ?ho ?hn ?hr ?_; (case ho => rfl); (case hg => rfl); (case hn => rfl); (case hr => first | (go_simp; done) | (go_simp; rfl)); intro w68 hw; have n0_ : Aside0 (w68.heap[gb115]? = some (.cells #[.string (⟨#[]⟩ : ByteArray), .string (⟨#[]⟩ : ByteArray), .int .i64 0, .int .i64 0, .bool false, .bool false] 23 (0, 0))) := ⟨(by rw [hw]; exact (by (with_reducible repeat (first | refine blk_drewN ?_ _ | refine blk_drew ?_ | refine blk_alloc ?_ _)); refine blk_put (cs := #[.string (⟨#[]⟩ : ByteArray), .string (⟨#[]⟩ : ByteArray), .int .i64 0, .int .i64 0, .bool false, .bool x116005_6]) ?_ 5 _ (by first | rfl | (simp only [X.w64_m]; rfl) | (simp only [Go.Proofs.YtbpckmbepgojfaaDoor.X.w64_m]; rfl)); (with_reducible repeat (first | refine blk_drewN ?_ _ | refine blk_drew ?_ | refine blk_alloc ?_ _)); refine blk_put (cs := #[.string (⟨#[]⟩ : ByteArray), .string (⟨#[]⟩ : ByteArray), .int .i64 0, .int .i64 0, .bool x116004_6, .bool x116005_6]) ?_ 4 _ (by first | rfl | (simp only [X.w64_m]; rfl) | (simp only [Go.Proofs.YtbpckmbepgojfaaDoor.X.w64_m]; rfl)); (with_reducible repeat (first | refine blk_drewN ?_ _ | refine blk_drew ?_ | refine blk_alloc ?_ _)); refine blk_put (cs := #[.string (⟨#[]⟩ : ByteArray), .string (⟨#[]⟩ : ByteArray), .int .i64 0, .int .i64 x116003_6, .bool x116004_6, .bool x116005_6]) ?_ 3 _ (by first | rfl | (simp only [X.w64_m]; rfl) | (simp only [Go.Proofs.YtbpckmbepgojfaaDoor.X.w64_m]; rfl)); (with_reducible repeat (first | refine blk_drewN ?_ _ | refine blk_drew ?_ | refine blk_alloc ?_ _)); refine blk_put (cs := #[.string (⟨#[]⟩ : ByteArray), .string (⟨#[]⟩ : ByteArray), .int .i64 x116002_6, .int .i64 x116003_6, .bool x116004_6, .bool x116005_6]) ?_ 2 _ (by first | rfl | (simp only [X.w64_m]; rfl) | (simp only [Go.Proofs.YtbpckmbepgojfaaDoor.X.w64_m]; rfl)); (with_reducible repeat (first | refine blk_drewN ?_ _ | refine blk_drew ?_ | refine blk_alloc ?_ _)); refine blk_put (cs := #[.string (⟨#[]⟩ : ByteArray), .string x116001_6, .int .i64 x116002_6, .int .i64 x116003_6, .bool x116004_6, .bool x116005_6]) ?_ 1 _ (by first | rfl | (simp only [X.w64_m]; rfl) | (simp only [Go.Proofs.YtbpckmbepgojfaaDoor.X.w64_m]; rfl)); (with_reducible repeat (first | refine blk_drewN ?_ _ | refine blk_drew ?_ | refine blk_alloc ?_ _)); refine blk_put (cs := #[.string x116000_6, .string x116001_6, .int .i64 x116002_6, .int .i64 x116003_6, .bool x116004_6, .bool x116005_6]) ?_ 0 _ (by first | rfl | (simp only [X.w64_m]; rfl) | (simp only [Go.Proofs.YtbpckmbepgojfaaDoor.X.w64_m]; rfl)); (with_reducible repeat (first | refine blk_drewN ?_ _ | refine blk_drew ?_ | refine blk_alloc ?_ _)); exact BK115.out))⟩; have n1_ : Aside0 (w68.heap[gb116]? = some (.cells #[.string (⟨#[]⟩ : ByteArray), .string (⟨#[]⟩ : ByteArray), .int .i64 x117002_6, .int .i64 ((((bt t118 0) - 65) % 256) + 1), .bool x117004_29, .bool x117005_7] 23 (0, 0))) := ⟨(by rw [hw]; exact (by (with_reducible repeat (first | refine blk_drewN ?_ _ | refine blk_drew ?_ | refine blk_alloc ?_ _)); refine blk_far ?_ NB116_115.out _; (with_reducible repeat (first | refine blk_drewN ?_ _ | refine blk_drew ?_ | refine blk_alloc ?_ _)); refine blk_far ?_ NB116_115.out _; (with_reducible repeat (first | refine blk_drewN ?_ _ | refine blk_drew ?_ | refine blk_alloc ?_ _)); refine blk_far ?_ NB116_115.out _; (with_reducible repeat (first | refine blk_drewN ?_ _ | refine blk_drew ?_ | refine blk_alloc ?_ _)); refine blk_far ?_ NB116_115.out _; (with_reducible repeat (first | refine blk_drewN ?_ _ | refine blk_drew ?_ | refine blk_alloc ?_ _)); refine blk_far ?_ NB116_115.out _; (with_reducible repeat (first | refine blk_drewN ?_ _ | refine blk_drew ?_ | refine blk_alloc ?_ _)); refine blk_far ?_ NB116_115.out _; (with_reducible repeat (first | refine blk_drewN ?_ _ | refine blk_drew ?_ | refine blk_alloc ?_ _)); exact BK116.out))⟩; have n2_ : Aside0 (Below w.heap.size w w68) := ⟨(by rw [hw]; exact (by (repeat (first | (with_reducible first | exact HB.out | apply below_alloc | apply pw_below_drewN | apply below_drew1 | refine below_set ?_ GE115.out | refine below_set ?_ GE116.out) | exact HB.out))))⟩; clear hw; clear BK115; clear BK116; clear HB; have BK115 := n0_; have BK116 := n1_; have HB := n2_; clear n0_ n1_ n2_))
                                          refine bodyPost_ret (results_ct rfl _ _ gb115 23 #[.string (⟨#[]⟩ : ByteArray), .string (⟨#[]⟩ : ByteArray), .int .i64 0, .int .i64 0, .bool false, .bool false] (0, 0) _ rfl (by (with_reducible repeat (first | refine blk_drewN ?_ _ | refine blk_drew ?_ | refine blk_alloc ?_ _)); exact BK115.out) Tryd.underlying23 rfl (by kernel_rfl)) rfl ?_
                                          exact ⟨by first | rfl | (simp [errW_none, errW_some] <;> rfl) | (simp [*, errW_none, errW_some] <;> rfl), by (repeat (first | (with_reducible first | exact HB.out | apply below_alloc | apply pw_below_drewN | apply below_drew1 | refine below_set ?_ GE115.out | refine below_set ?_ GE116.out) | exact HB.out))⟩
                      · rw [if_neg c28] at H
                        exact absurd H (by simp)
                    · rw [if_neg c25] at H
                      exact absurd H (by simp)
                  · rw [if_neg c23] at H
                    exact absurd H (by simp)
                · rw [if_neg c22] at H
                  exact absurd H (by simp)

end Go.Proofs.YtbpckmbepgojfaaDoor.P
