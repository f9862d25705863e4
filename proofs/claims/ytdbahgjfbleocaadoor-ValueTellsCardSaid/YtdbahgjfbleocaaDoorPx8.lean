-- Written by a program of this session (wip/tools/xprint.py), out of the seat's translation. Not trusted: Lean checks it.
import Derived.Test.YtdbahgjfbleocaaDoorPx0
import Derived.Test.YtdbahgjfbleocaaDoorPx2
import Derived.Test.YtdbahgjfbleocaaDoorPx7
namespace Go.Proofs.YtdbahgjfbleocaaDoor.P
open Go.RowKit Go.Proofs.YtdbahgjfbleocaaDoorW.PrintWords Go.Proofs.YtdbahgjfbleocaaDoorW.PrintLast Go.Proofs.YtdbahgjfbleocaaDoorW.PrintMore
attribute [local go_sem] max2_int min2_int max_two min_two max_three min_three max_four min_four X.binOp_str_gtr X.binOp_str_leq   -- for this text's walks alone
set_option linter.unusedVariables false
set_option linter.unusedSimpArgs false

/-! ### octavoref06_Truth: function 47 -/
def octavoref06_Truth.f (a0 : ByteArray) : Option (Int) := (octavoref06_Upper.f a0).bind fun t194 => (if t194.toList = ([84, 82, 85, 69] : List UInt8) then (some 1) else (if t194.toList = ([70, 65, 76, 83, 69] : List UInt8) then (some 0) else (some (-1))))
set_option maxHeartbeats 8000000 in
set_option maxRecDepth 100000 in
theorem octavoref06_Truth.calls (a0 : ByteArray) (r : Int) (w : World) (h : octavoref06_Truth.f a0 = some r) :
    Calls Tryd.prog 47 #[.string a0] w fun e w' => e = .returned (.int .i64 r) ∧ Below w.heap.size w w' := by
  have HB := Aside0.mk (Below.refl w.heap.size w)
  have H : ((octavoref06_Upper.f a0).bind fun t194 => (if t194.toList = ([84, 82, 85, 69] : List UInt8) then (some 1) else (if t194.toList = ([70, 65, 76, 83, 69] : List UInt8) then (some 0) else (some (-1))))) = some r := h
  clear h
  replace H := Option.bind_eq_some_iff.mp H
  obtain ⟨t194, A20, H⟩ := H
  replace H : (if t194.toList = ([84, 82, 85, 69] : List UInt8) then (some 1) else (if t194.toList = ([70, 65, 76, 83, 69] : List UInt8) then (some 0) else (some (-1)))) = some r := H
  have A2 := Aside0.mk A20
  clear A20
  by_cases c3 : t194.toList = ([84, 82, 85, 69] : List UInt8)
  · rw [if_pos c3] at H
    have c3b0 : (t194.toList == ([84, 82, 85, 69] : List UInt8)) = true := beq_iff_eq.mpr c3
    have c3b1 : (t194.toList != ([84, 82, 85, 69] : List UInt8)) = false := bne_eq_false_iff_eq.mpr c3
    clear c3
    obtain rfl := Option.some.inj H
    go_enter Tryd.func47, Tryd.ntmps47
    go_wp2_with (first | ((with_reducible refine gate_callee (f := 27) rfl ?_); refine goesL_ (some 4) rfl rfl Tryd.func27 (by kernel_rfl) rfl #[.string a0] rfl (by (try simp only [List.map_toArray, List.map_cons, List.map_nil]); first | done | rfl | (simp only [List.length_drop, List.length_take]; rfl)) ?_; (with_reducible refine (octavoref06_Upper.calls a0 t194 _ A2.out).mono ?_); rintro e w4 ⟨rfl, hb⟩; refine ⟨_, rfl, ?_⟩; have n0_ := Aside0.mk (below_step (by repeat (first | (with_reducible first | exact HB.out | apply below_alloc | apply pw_below_drewN | apply below_drew1) | exact HB.out)) hb); clear HB; have HB := n0_; clear n0_; (try clear hb); (try clear hb2); (try clear hk); (try clear hi)))
    go_ret
    exact ⟨by first | rfl | (simp [errW_none, errW_some] <;> rfl) | (simp [*, errW_none, errW_some] <;> rfl), by repeat (first | (with_reducible first | exact HB.out | apply below_alloc | apply pw_below_drewN | apply below_drew1) | exact HB.out)⟩
  · rw [if_neg c3] at H
    have c3b0 : (t194.toList == ([84, 82, 85, 69] : List UInt8)) = false := beq_eq_false_iff_ne.mpr c3
    have c3b1 : (t194.toList != ([84, 82, 85, 69] : List UInt8)) = true := bne_iff_ne.mpr c3
    by_cases c5 : t194.toList = ([70, 65, 76, 83, 69] : List UInt8)
    · rw [if_pos c5] at H
      have c5b0 : (t194.toList == ([70, 65, 76, 83, 69] : List UInt8)) = true := beq_iff_eq.mpr c5
      have c5b1 : (t194.toList != ([70, 65, 76, 83, 69] : List UInt8)) = false := bne_eq_false_iff_eq.mpr c5
      clear c5
      obtain rfl := Option.some.inj H
      go_enter Tryd.func47, Tryd.ntmps47
      go_wp2_with (first | ((with_reducible refine gate_callee (f := 27) rfl ?_); refine goesL_ (some 4) rfl rfl Tryd.func27 (by kernel_rfl) rfl #[.string a0] rfl (by (try simp only [List.map_toArray, List.map_cons, List.map_nil]); first | done | rfl | (simp only [List.length_drop, List.length_take]; rfl)) ?_; (with_reducible refine (octavoref06_Upper.calls a0 t194 _ A2.out).mono ?_); rintro e w6 ⟨rfl, hb⟩; refine ⟨_, rfl, ?_⟩; have n0_ := Aside0.mk (below_step (by repeat (first | (with_reducible first | exact HB.out | apply below_alloc | apply pw_below_drewN | apply below_drew1) | exact HB.out)) hb); clear HB; have HB := n0_; clear n0_; (try clear hb); (try clear hb2); (try clear hk); (try clear hi)))
      go_ret
      exact ⟨by first | rfl | (simp [errW_none, errW_some] <;> rfl) | (simp [*, errW_none, errW_some] <;> rfl), by repeat (first | (with_reducible first | exact HB.out | apply below_alloc | apply pw_below_drewN | apply below_drew1) | exact HB.out)⟩
    · rw [if_neg c5] at H
      have c5b0 : (t194.toList == ([70, 65, 76, 83, 69] : List UInt8)) = false := beq_eq_false_iff_ne.mpr c5
      have c5b1 : (t194.toList != ([70, 65, 76, 83, 69] : List UInt8)) = true := bne_iff_ne.mpr c5
      obtain rfl := Option.some.inj H
      go_enter Tryd.func47, Tryd.ntmps47
      go_wp2_with (first | ((with_reducible refine gate_callee (f := 27) rfl ?_); refine goesL_ (some 4) rfl rfl Tryd.func27 (by kernel_rfl) rfl #[.string a0] rfl (by (try simp only [List.map_toArray, List.map_cons, List.map_nil]); first | done | rfl | (simp only [List.length_drop, List.length_take]; rfl)) ?_; (with_reducible refine (octavoref06_Upper.calls a0 t194 _ A2.out).mono ?_); rintro e w7 ⟨rfl, hb⟩; refine ⟨_, rfl, ?_⟩; have n0_ := Aside0.mk (below_step (by repeat (first | (with_reducible first | exact HB.out | apply below_alloc | apply pw_below_drewN | apply below_drew1) | exact HB.out)) hb); clear HB; have HB := n0_; clear n0_; (try clear hb); (try clear hb2); (try clear hk); (try clear hi)))
      go_ret
      exact ⟨by first | rfl | (simp [errW_none, errW_some] <;> rfl) | (simp [*, errW_none, errW_some] <;> rfl), by repeat (first | (with_reducible first | exact HB.out | apply below_alloc | apply pw_below_drewN | apply below_drew1) | exact HB.out)⟩

/-! ### octavoref06_ToBool: function 19 -/
def octavoref06_ToBool.j0 : Nat → Int → Bool → Int → Int → ByteArray → Option (Bool × Int)
  | 0, _, _, _, _, _ => none
  | k + 1, x6, x9, x196000, x196001, x196002 => if x9 = true then (some ((x196001 != 0), 0)) else (if x6 = 2 then ((octavoref06_Truth.f x196002).bind fun t196 => (if t196 ≥ 0 then (some ((t196 == 1), 0)) else (some (false, 2)))) else (if x6 = 4 then (some (false, x196001)) else (some (false, 2))))
def octavoref06_ToBool.f (k : Nat) (a0_0 : Int) (a0_1 : Int) (a0_2 : ByteArray) : Option (Bool × Int) := if a0_0 = 0 then (some (false, 0)) else (if a0_0 = 1 then (octavoref06_ToBool.j0 k a0_0 (a0_0 == 1) a0_0 a0_1 a0_2) else (octavoref06_ToBool.j0 k a0_0 (a0_0 == 3) a0_0 a0_1 a0_2))
theorem octavoref06_ToBool.mono_l : ∀ k, (∀ y0 y1 y2 y3 y4, LeO (octavoref06_ToBool.j0 k y0 y1 y2 y3 y4) (octavoref06_ToBool.j0 (k + 1) y0 y1 y2 y3 y4))
  | 0 => fun _ _ _ _ _ r h => by simp [octavoref06_ToBool.j0] at h
  | k + 1 => by
    have ih0 := octavoref06_ToBool.mono_l k
    · intro y0 y1 y2 y3 y4
      unfold octavoref06_ToBool.j0
      repeat' first
      | (with_reducible exact ih0 _ _ _ _ _)
      | (with_reducible exact LeO.refl _)
      | (with_reducible exact LeO.none _)
      | (with_reducible refine LeO.ite ?_ ?_)
      | (with_reducible refine LeO.bind ?_ (fun _ => ?_))
      | exact ih0 _ _ _ _ _
      | exact LeO.none _
      | refine LeO.ite ?_ ?_
      | refine LeO.bind ?_ (fun _ => ?_)
theorem octavoref06_ToBool.mono : ∀ a0 a1 a2 k, LeO (octavoref06_ToBool.f k a0 a1 a2) (octavoref06_ToBool.f (k + 1) a0 a1 a2) := by
  intro a0 a1 a2 k
  have ih0 := octavoref06_ToBool.mono_l k
  unfold octavoref06_ToBool.f
  repeat' first
      | (with_reducible exact ih0 _ _ _ _ _)
      | (with_reducible exact LeO.refl _)
      | (with_reducible exact LeO.none _)
      | (with_reducible refine LeO.ite ?_ ?_)
      | (with_reducible refine LeO.bind ?_ (fun _ => ?_))
      | exact ih0 _ _ _ _ _
      | exact LeO.none _
      | refine LeO.ite ?_ ?_
      | refine LeO.bind ?_ (fun _ => ?_)
set_option maxHeartbeats 8000000 in
set_option maxRecDepth 100000 in
theorem octavoref06_ToBool.calls (k : Nat) (a0_0 : Int) (a0_1 : Int) (a0_2 : ByteArray) (r1 : Bool) (r2 : Int) (w : World) (h : octavoref06_ToBool.f k a0_0 a0_1 a0_2 = some (r1, r2)) :
    Calls Tryd.prog 19 #[.agg #[.int .i64 a0_0, .int .i64 a0_1, .string a0_2]] w fun e w' => e = .returned (.tuple #[.bool r1, .int .i64 r2]) ∧ Below w.heap.size w w' := by
  have hu23 := Tryd.underlying23
  have HB := Aside0.mk (Below.refl w.heap.size w)
  have H : (if a0_0 = 0 then (some (false, 0)) else (if a0_0 = 1 then (octavoref06_ToBool.j0 k a0_0 (a0_0 == 1) a0_0 a0_1 a0_2) else (octavoref06_ToBool.j0 k a0_0 (a0_0 == 3) a0_0 a0_1 a0_2))) = some (r1, r2) := h
  clear h
  by_cases c2 : a0_0 = 0
  · rw [if_pos c2] at H
    have c2b0 : (a0_0 == 0) = true := beq_iff_eq.mpr c2
    have c2b1 : (a0_0 != 0) = false := bne_eq_false_iff_eq.mpr c2
    clear c2
    simp only [Option.some.injEq, Prod.mk.injEq] at H
    obtain ⟨rfl, rfl⟩ := H
    go_enter Tryd.func19, Tryd.ntmps19
    go_wp2_with (first | ((with_reducible refine gate_dst (N := 1) rfl ?_); refine box_event ?hg (N := 1) ?hd (cs := #[.int .i64 a0_0, .int .i64 a0_1, .string a0_2]) (t := 23) ?hr ?_; (case hd => rfl); (case hg => rfl); (case hr => first | (go_simp; done) | (go_simp; rfl)); intro gb195 hg w3 hbox hb; have n0_ := Aside0.mk (below_step (by repeat (first | (with_reducible first | exact HB.out | apply below_alloc | apply pw_below_drewN | apply below_drew1) | exact HB.out)) hb); have n1_ := Aside0.mk (hbox); have n2_ := Aside0.mk ((by rw [hg]; exact (below_size (by repeat (first | (with_reducible first | exact HB.out | apply below_alloc | apply pw_below_drewN | apply below_drew1) | exact HB.out))) : w.heap.size ≤ gb195)); have n3_ := Aside0.mk ((by rw [hg]; exact (below_size (by repeat (first | (with_reducible first | exact HB.out | apply below_alloc | apply pw_below_drewN | apply below_drew1) | exact HB.out))) : w.heap.size ≤ gb195)); clear HB; have HB := n0_; have BK195 := n1_; have GW195 := n2_; have GE195 := n3_; clear n0_ n1_ n2_ n3_; clear hb hbox hg; have hcz4_0 : w3.cell? ⟨gb195, 0, none⟩ = some (.int .i64 a0_0) := (blk_cell BK195.out 0).trans rfl; have hcz4_1 : w3.cell? ⟨gb195, 1, none⟩ = some (.int .i64 a0_1) := (blk_cell BK195.out 1).trans rfl; have hcz4_2 : w3.cell? ⟨gb195, 2, none⟩ = some (.string a0_2) := (blk_cell BK195.out 2).trans rfl; have hfz4_0 := blk_frozen BK195.out 0; have hfz4_1 := blk_frozen BK195.out 1; have hfz4_2 := blk_frozen BK195.out 2))
    repeat (go_quiet (first | ((with_reducible refine gate_dst (N := 1) rfl ?_); refine box_event ?hg (N := 1) ?hd (cs := #[.int .i64 a0_0, .int .i64 a0_1, .string a0_2]) (t := 23) ?hr ?_; (case hd => rfl); (case hg => rfl); (case hr => first | (go_simp; done) | (go_simp; rfl)); intro gb195 hg w3 hbox hb; have n0_ := Aside0.mk (below_step (by repeat (first | (with_reducible first | exact HB.out | apply below_alloc | apply pw_below_drewN | apply below_drew1) | exact HB.out)) hb); have n1_ := Aside0.mk (hbox); have n2_ := Aside0.mk ((by rw [hg]; exact (below_size (by repeat (first | (with_reducible first | exact HB.out | apply below_alloc | apply pw_below_drewN | apply below_drew1) | exact HB.out))) : w.heap.size ≤ gb195)); have n3_ := Aside0.mk ((by rw [hg]; exact (below_size (by repeat (first | (with_reducible first | exact HB.out | apply below_alloc | apply pw_below_drewN | apply below_drew1) | exact HB.out))) : w.heap.size ≤ gb195)); clear HB; have HB := n0_; have BK195 := n1_; have GW195 := n2_; have GE195 := n3_; clear n0_ n1_ n2_ n3_; clear hb hbox hg; have hcz4_0 : w3.cell? ⟨gb195, 0, none⟩ = some (.int .i64 a0_0) := (blk_cell BK195.out 0).trans rfl; have hcz4_1 : w3.cell? ⟨gb195, 1, none⟩ = some (.int .i64 a0_1) := (blk_cell BK195.out 1).trans rfl; have hcz4_2 : w3.cell? ⟨gb195, 2, none⟩ = some (.string a0_2) := (blk_cell BK195.out 2).trans rfl; have hfz4_0 := blk_frozen BK195.out 0; have hfz4_1 := blk_frozen BK195.out 1; have hfz4_2 := blk_frozen BK195.out 2)); try go_wp2_with (first | ((with_reducible refine gate_dst (N := 1) rfl ?_); refine box_event ?hg (N := 1) ?hd (cs := #[.int .i64 a0_0, .int .i64 a0_1, .string a0_2]) (t := 23) ?hr ?_; (case hd => rfl); (case hg => rfl); (case hr => first | (go_simp; done) | (go_simp; rfl)); intro gb195 hg w3 hbox hb; have n0_ := Aside0.mk (below_step (by repeat (first | (with_reducible first | exact HB.out | apply below_alloc | apply pw_below_drewN | apply below_drew1) | exact HB.out)) hb); have n1_ := Aside0.mk (hbox); have n2_ := Aside0.mk ((by rw [hg]; exact (below_size (by repeat (first | (with_reducible first | exact HB.out | apply below_alloc | apply pw_below_drewN | apply below_drew1) | exact HB.out))) : w.heap.size ≤ gb195)); have n3_ := Aside0.mk ((by rw [hg]; exact (below_size (by repeat (first | (with_reducible first | exact HB.out | apply below_alloc | apply pw_below_drewN | apply below_drew1) | exact HB.out))) : w.heap.size ≤ gb195)); clear HB; have HB := n0_; have BK195 := n1_; have GW195 := n2_; have GE195 := n3_; clear n0_ n1_ n2_ n3_; clear hb hbox hg; have hcz4_0 : w3.cell? ⟨gb195, 0, none⟩ = some (.int .i64 a0_0) := (blk_cell BK195.out 0).trans rfl; have hcz4_1 : w3.cell? ⟨gb195, 1, none⟩ = some (.int .i64 a0_1) := (blk_cell BK195.out 1).trans rfl; have hcz4_2 : w3.cell? ⟨gb195, 2, none⟩ = some (.string a0_2) := (blk_cell BK195.out 2).trans rfl; have hfz4_0 := blk_frozen BK195.out 0; have hfz4_1 := blk_frozen BK195.out 1; have hfz4_2 := blk_frozen BK195.out 2)))
    go_ret2
    exact ⟨by first | rfl | (simp [errW_none, errW_some] <;> rfl) | (simp [*, errW_none, errW_some] <;> rfl), by repeat (first | (with_reducible first | exact HB.out | apply below_alloc | apply pw_below_drewN | apply below_drew1 | refine below_set ?_ GE195.out) | exact HB.out)⟩
  · rw [if_neg c2] at H
    have c2b0 : (a0_0 == 0) = false := beq_eq_false_iff_ne.mpr c2
    have c2b1 : (a0_0 != 0) = true := bne_iff_ne.mpr c2
    have HC5 := Aside0.mk H
    clear H
    go_enter Tryd.func19, Tryd.ntmps19
    go_upto_if 9 with (first | ((with_reducible refine gate_dst (N := 1) rfl ?_); refine box_event ?hg (N := 1) ?hd (cs := #[.int .i64 a0_0, .int .i64 a0_1, .string a0_2]) (t := 23) ?hr ?_; (case hd => rfl); (case hg => rfl); (case hr => first | (go_simp; done) | (go_simp; rfl)); intro gb195 hg w6 hbox hb; have n0_ := Aside0.mk (below_step (by repeat (first | (with_reducible first | exact HB.out | apply below_alloc | apply pw_below_drewN | apply below_drew1) | exact HB.out)) hb); have n1_ := Aside0.mk (hbox); have n2_ := Aside0.mk ((by rw [hg]; exact (below_size (by repeat (first | (with_reducible first | exact HB.out | apply below_alloc | apply pw_below_drewN | apply below_drew1) | exact HB.out))) : w.heap.size ≤ gb195)); have n3_ := Aside0.mk ((by rw [hg]; exact (below_size (by repeat (first | (with_reducible first | exact HB.out | apply below_alloc | apply pw_below_drewN | apply below_drew1) | exact HB.out))) : w.heap.size ≤ gb195)); clear HB; have HB := n0_; have BK195 := n1_; have GW195 := n2_; have GE195 := n3_; clear n0_ n1_ n2_ n3_; clear hb hbox hg; have hcz7_0 : w6.cell? ⟨gb195, 0, none⟩ = some (.int .i64 a0_0) := (blk_cell BK195.out 0).trans rfl; have hcz7_1 : w6.cell? ⟨gb195, 1, none⟩ = some (.int .i64 a0_1) := (blk_cell BK195.out 1).trans rfl; have hcz7_2 : w6.cell? ⟨gb195, 2, none⟩ = some (.string a0_2) := (blk_cell BK195.out 2).trans rfl; have hfz7_0 := blk_frozen BK195.out 0; have hfz7_1 := blk_frozen BK195.out 1; have hfz7_2 := blk_frozen BK195.out 2))
    repeat (go_quiet (first | ((with_reducible refine gate_dst (N := 1) rfl ?_); refine box_event ?hg (N := 1) ?hd (cs := #[.int .i64 a0_0, .int .i64 a0_1, .string a0_2]) (t := 23) ?hr ?_; (case hd => rfl); (case hg => rfl); (case hr => first | (go_simp; done) | (go_simp; rfl)); intro gb195 hg w6 hbox hb; have n0_ := Aside0.mk (below_step (by repeat (first | (with_reducible first | exact HB.out | apply below_alloc | apply pw_below_drewN | apply below_drew1) | exact HB.out)) hb); have n1_ := Aside0.mk (hbox); have n2_ := Aside0.mk ((by rw [hg]; exact (below_size (by repeat (first | (with_reducible first | exact HB.out | apply below_alloc | apply pw_below_drewN | apply below_drew1) | exact HB.out))) : w.heap.size ≤ gb195)); have n3_ := Aside0.mk ((by rw [hg]; exact (below_size (by repeat (first | (with_reducible first | exact HB.out | apply below_alloc | apply pw_below_drewN | apply below_drew1) | exact HB.out))) : w.heap.size ≤ gb195)); clear HB; have HB := n0_; have BK195 := n1_; have GW195 := n2_; have GE195 := n3_; clear n0_ n1_ n2_ n3_; clear hb hbox hg; have hcz7_0 : w6.cell? ⟨gb195, 0, none⟩ = some (.int .i64 a0_0) := (blk_cell BK195.out 0).trans rfl; have hcz7_1 : w6.cell? ⟨gb195, 1, none⟩ = some (.int .i64 a0_1) := (blk_cell BK195.out 1).trans rfl; have hcz7_2 : w6.cell? ⟨gb195, 2, none⟩ = some (.string a0_2) := (blk_cell BK195.out 2).trans rfl; have hfz7_0 := blk_frozen BK195.out 0; have hfz7_1 := blk_frozen BK195.out 1; have hfz7_2 := blk_frozen BK195.out 2)); go_upto_if 9 with (first | ((with_reducible refine gate_dst (N := 1) rfl ?_); refine box_event ?hg (N := 1) ?hd (cs := #[.int .i64 a0_0, .int .i64 a0_1, .string a0_2]) (t := 23) ?hr ?_; (case hd => rfl); (case hg => rfl); (case hr => first | (go_simp; done) | (go_simp; rfl)); intro gb195 hg w6 hbox hb; have n0_ := Aside0.mk (below_step (by repeat (first | (with_reducible first | exact HB.out | apply below_alloc | apply pw_below_drewN | apply below_drew1) | exact HB.out)) hb); have n1_ := Aside0.mk (hbox); have n2_ := Aside0.mk ((by rw [hg]; exact (below_size (by repeat (first | (with_reducible first | exact HB.out | apply below_alloc | apply pw_below_drewN | apply below_drew1) | exact HB.out))) : w.heap.size ≤ gb195)); have n3_ := Aside0.mk ((by rw [hg]; exact (below_size (by repeat (first | (with_reducible first | exact HB.out | apply below_alloc | apply pw_below_drewN | apply below_drew1) | exact HB.out))) : w.heap.size ≤ gb195)); clear HB; have HB := n0_; have BK195 := n1_; have GW195 := n2_; have GE195 := n3_; clear n0_ n1_ n2_ n3_; clear hb hbox hg; have hcz7_0 : w6.cell? ⟨gb195, 0, none⟩ = some (.int .i64 a0_0) := (blk_cell BK195.out 0).trans rfl; have hcz7_1 : w6.cell? ⟨gb195, 1, none⟩ = some (.int .i64 a0_1) := (blk_cell BK195.out 1).trans rfl; have hcz7_2 : w6.cell? ⟨gb195, 2, none⟩ = some (.string a0_2) := (blk_cell BK195.out 2).trans rfl; have hfz7_0 := blk_frozen BK195.out 0; have hfz7_1 := blk_frozen BK195.out 1; have hfz7_2 := blk_frozen BK195.out 2)))
    (try simp only [Act.put, List.setIfInBounds_toArray, List.set_cons_zero, List.set_cons_succ])
    go_cut [9] (fun v9 wc => ∃ (kq : Nat) (x9_4 : Bool), v9 = .bool x9_4 ∧ Aside0 (octavoref06_ToBool.j0 kq a0_0 x9_4 a0_0 a0_1 a0_2 = some (r1, r2)) ∧ Aside0 (kq ≤ k) ∧ Aside0 (wc.heap[gb195]? = some (.cells #[.int .i64 a0_0, .int .i64 a0_1, .string a0_2] 23 (0, 0))) ∧ Aside0 (Below w.heap.size w wc))
    case first =>
      have H := HC5.out
      clear HC5
      by_cases c8 : a0_0 = 1
      · rw [if_pos c8] at H
        have c8b0 : (a0_0 == 1) = true := beq_iff_eq.mpr c8
        have c8b1 : (a0_0 != 1) = false := bne_eq_false_iff_eq.mpr c8
        clear c8
        (first | rw [c8b0] | (simp only [i64_w, i32_w]; rw [c8b0]) | skip)
        have H' := Aside0.mk H
        clear H
        go_wp2
        repeat (go_quiet (fail); try go_wp2)
        go_meet
        case rel => exact ⟨_, ((a0_0 == 1)), (by first | rfl | (simp; done) | (simp [*]; done)), H', ⟨by first | omega | exact Nat.le_refl _⟩, ⟨by (with_reducible repeat (first | refine blk_drewN ?_ _ | refine blk_drew ?_ | refine blk_alloc ?_ _)); exact BK195.out⟩, ⟨by repeat (first | (with_reducible first | exact HB.out | apply below_alloc | apply pw_below_drewN | apply below_drew1 | refine below_set ?_ GE195.out) | exact HB.out)⟩⟩
      · rw [if_neg c8] at H
        have c8b0 : (a0_0 == 1) = false := beq_eq_false_iff_ne.mpr c8
        have c8b1 : (a0_0 != 1) = true := bne_iff_ne.mpr c8
        (first | rw [c8b0] | (simp only [i64_w, i32_w]; rw [c8b0]) | skip)
        have H' := Aside0.mk H
        clear H
        go_wp2
        repeat (go_quiet (fail); try go_wp2)
        go_meet
        case rel => exact ⟨_, ((a0_0 == 3)), (by first | rfl | (simp; done) | (simp [*]; done)), H', ⟨by first | omega | exact Nat.le_refl _⟩, ⟨by (with_reducible repeat (first | refine blk_drewN ?_ _ | refine blk_drew ?_ | refine blk_alloc ?_ _)); exact BK195.out⟩, ⟨by repeat (first | (with_reducible first | exact HB.out | apply below_alloc | apply pw_below_drewN | apply below_drew1 | refine below_set ?_ GE195.out) | exact HB.out)⟩⟩
    case rest =>
      clear HC5
      try clear c1
      try clear c2
      try clear c2b0
      try clear c2b1
      try clear p2
      try clear c8
      try clear c8b0
      try clear c8b1
      try clear hcz4_0
      try clear hcz4_1
      try clear hcz4_2
      try clear hcz7_0
      try clear hcz7_1
      try clear hcz7_2
      try clear hfz4_0
      try clear hfz4_1
      try clear hfz4_2
      try clear hfz7_0
      try clear hfz7_1
      try clear hfz7_2
      obtain ⟨kq, x9_4, rfl, HA, HJ4, BK195, HB⟩ := hcut
      cases kq with
      | zero => exact absurd HA.out (by simp [octavoref06_ToBool.j0])
      | succ kj4 =>
        have H := HA.out
        clear HA
        simp only [octavoref06_ToBool.j0] at H
        by_cases c9 : x9_4 = true
        · subst c9
          have H1 : (some ((a0_1 != 0), 0)) = some (r1, r2) := by rw [if_pos rfl] at H; exact H
          clear H
          have H := H1
          clear H1
          simp only [Option.some.injEq, Prod.mk.injEq] at H
          obtain ⟨rfl, rfl⟩ := H
          have hcz10_0 : wc.cell? ⟨gb195, 0, none⟩ = some (.int .i64 a0_0) := (blk_cell BK195.out 0).trans rfl
          have hcz10_1 : wc.cell? ⟨gb195, 1, none⟩ = some (.int .i64 a0_1) := (blk_cell BK195.out 1).trans rfl
          have hcz10_2 : wc.cell? ⟨gb195, 2, none⟩ = some (.string a0_2) := (blk_cell BK195.out 2).trans rfl
          have hfz10_0 := blk_frozen BK195.out 0
          have hfz10_1 := blk_frozen BK195.out 1
          have hfz10_2 := blk_frozen BK195.out 2
          go_wp2
          repeat (go_quiet (fail); try go_wp2)
          go_ret2
          exact ⟨by first | rfl | (simp [errW_none, errW_some] <;> rfl) | (simp [*, errW_none, errW_some] <;> rfl), by repeat (first | (with_reducible first | exact HB.out | apply below_alloc | apply pw_below_drewN | apply below_drew1 | refine below_set ?_ GE195.out) | exact HB.out)⟩
        · replace c9 := Bool.eq_false_iff.mpr c9
          subst c9
          have H1 : (if a0_0 = 2 then ((octavoref06_Truth.f a0_2).bind fun t196 => (if t196 ≥ 0 then (some ((t196 == 1), 0)) else (some (false, 2)))) else (if a0_0 = 4 then (some (false, a0_1)) else (some (false, 2)))) = some (r1, r2) := by rw [if_neg (show ¬ (false = true) by decide)] at H; exact H
          clear H
          have H := H1
          clear H1
          by_cases c11 : a0_0 = 2
          · rw [if_pos c11] at H
            have c11b0 : (a0_0 == 2) = true := beq_iff_eq.mpr c11
            have c11b1 : (a0_0 != 2) = false := bne_eq_false_iff_eq.mpr c11
            clear c11
            replace H := Option.bind_eq_some_iff.mp H
            obtain ⟨t196, A120, H⟩ := H
            replace H : (if t196 ≥ 0 then (some ((t196 == 1), 0)) else (some (false, 2))) = some (r1, r2) := H
            have A12 := Aside0.mk A120
            clear A120
            by_cases c13 : t196 ≥ 0
            · rw [if_pos c13] at H
              have c13b0 : decide (0 ≤ t196) = true := decide_eq_true c13
              clear c13
              simp only [Option.some.injEq, Prod.mk.injEq] at H
              obtain ⟨rfl, rfl⟩ := H
              have hcz14_0 : wc.cell? ⟨gb195, 0, none⟩ = some (.int .i64 a0_0) := (blk_cell BK195.out 0).trans rfl
              have hcz14_1 : wc.cell? ⟨gb195, 1, none⟩ = some (.int .i64 a0_1) := (blk_cell BK195.out 1).trans rfl
              have hcz14_2 : wc.cell? ⟨gb195, 2, none⟩ = some (.string a0_2) := (blk_cell BK195.out 2).trans rfl
              have hfz14_0 := blk_frozen BK195.out 0
              have hfz14_1 := blk_frozen BK195.out 1
              have hfz14_2 := blk_frozen BK195.out 2
              go_wp2_with (first | (go_at_call 47; (with_reducible refine (octavoref06_Truth.calls a0_2 t196 _ A12.out).mono ?_); rintro e w15 ⟨rfl, hb⟩; have n0_ := Aside0.mk (blk_below (g := gb195) (o := .cells #[.int .i64 a0_0, .int .i64 a0_1, .string a0_2] 23 (0, 0)) (by (with_reducible repeat (first | refine blk_drewN ?_ _ | refine blk_drew ?_ | refine blk_alloc ?_ _)); exact BK195.out) hb); have n1_ := Aside0.mk (below_step (by repeat (first | (with_reducible first | exact HB.out | apply below_alloc | apply pw_below_drewN | apply below_drew1 | refine below_set ?_ GE195.out) | exact HB.out)) hb); clear BK195; clear HB; have BK195 := n0_; have HB := n1_; clear n0_ n1_; (try clear hb); (try clear hb2); (try clear hk); (try clear hi)))
              repeat (go_quiet (first | (go_at_call 47; (with_reducible refine (octavoref06_Truth.calls a0_2 t196 _ A12.out).mono ?_); rintro e w15 ⟨rfl, hb⟩; have n0_ := Aside0.mk (blk_below (g := gb195) (o := .cells #[.int .i64 a0_0, .int .i64 a0_1, .string a0_2] 23 (0, 0)) (by (with_reducible repeat (first | refine blk_drewN ?_ _ | refine blk_drew ?_ | refine blk_alloc ?_ _)); exact BK195.out) hb); have n1_ := Aside0.mk (below_step (by repeat (first | (with_reducible first | exact HB.out | apply below_alloc | apply pw_below_drewN | apply below_drew1 | refine below_set ?_ GE195.out) | exact HB.out)) hb); clear BK195; clear HB; have BK195 := n0_; have HB := n1_; clear n0_ n1_; (try clear hb); (try clear hb2); (try clear hk); (try clear hi))); try go_wp2_with (first | (go_at_call 47; (with_reducible refine (octavoref06_Truth.calls a0_2 t196 _ A12.out).mono ?_); rintro e w15 ⟨rfl, hb⟩; have n0_ := Aside0.mk (blk_below (g := gb195) (o := .cells #[.int .i64 a0_0, .int .i64 a0_1, .string a0_2] 23 (0, 0)) (by (with_reducible repeat (first | refine blk_drewN ?_ _ | refine blk_drew ?_ | refine blk_alloc ?_ _)); exact BK195.out) hb); have n1_ := Aside0.mk (below_step (by repeat (first | (with_reducible first | exact HB.out | apply below_alloc | apply pw_below_drewN | apply below_drew1 | refine below_set ?_ GE195.out) | exact HB.out)) hb); clear BK195; clear HB; have BK195 := n0_; have HB := n1_; clear n0_ n1_; (try clear hb); (try clear hb2); (try clear hk); (try clear hi))))
              go_ret2
              exact ⟨by first | rfl | (simp [errW_none, errW_some] <;> rfl) | (simp [*, errW_none, errW_some] <;> rfl), by repeat (first | (with_reducible first | exact HB.out | apply below_alloc | apply pw_below_drewN | apply below_drew1 | refine below_set ?_ GE195.out) | exact HB.out)⟩
            · rw [if_neg c13] at H
              have c13b0 : decide (0 ≤ t196) = false := decide_eq_false c13
              clear c13
              simp only [Option.some.injEq, Prod.mk.injEq] at H
              obtain ⟨rfl, rfl⟩ := H
              have hcz16_0 : wc.cell? ⟨gb195, 0, none⟩ = some (.int .i64 a0_0) := (blk_cell BK195.out 0).trans rfl
              have hcz16_1 : wc.cell? ⟨gb195, 1, none⟩ = some (.int .i64 a0_1) := (blk_cell BK195.out 1).trans rfl
              have hcz16_2 : wc.cell? ⟨gb195, 2, none⟩ = some (.string a0_2) := (blk_cell BK195.out 2).trans rfl
              have hfz16_0 := blk_frozen BK195.out 0
              have hfz16_1 := blk_frozen BK195.out 1
              have hfz16_2 := blk_frozen BK195.out 2
              go_wp2_with (first | (go_at_call 47; (with_reducible refine (octavoref06_Truth.calls a0_2 t196 _ A12.out).mono ?_); rintro e w17 ⟨rfl, hb⟩; have n0_ := Aside0.mk (blk_below (g := gb195) (o := .cells #[.int .i64 a0_0, .int .i64 a0_1, .string a0_2] 23 (0, 0)) (by (with_reducible repeat (first | refine blk_drewN ?_ _ | refine blk_drew ?_ | refine blk_alloc ?_ _)); exact BK195.out) hb); have n1_ := Aside0.mk (below_step (by repeat (first | (with_reducible first | exact HB.out | apply below_alloc | apply pw_below_drewN | apply below_drew1 | refine below_set ?_ GE195.out) | exact HB.out)) hb); clear BK195; clear HB; have BK195 := n0_; have HB := n1_; clear n0_ n1_; (try clear hb); (try clear hb2); (try clear hk); (try clear hi)))
              repeat (go_quiet (first | (go_at_call 47; (with_reducible refine (octavoref06_Truth.calls a0_2 t196 _ A12.out).mono ?_); rintro e w17 ⟨rfl, hb⟩; have n0_ := Aside0.mk (blk_below (g := gb195) (o := .cells #[.int .i64 a0_0, .int .i64 a0_1, .string a0_2] 23 (0, 0)) (by (with_reducible repeat (first | refine blk_drewN ?_ _ | refine blk_drew ?_ | refine blk_alloc ?_ _)); exact BK195.out) hb); have n1_ := Aside0.mk (below_step (by repeat (first | (with_reducible first | exact HB.out | apply below_alloc | apply pw_below_drewN | apply below_drew1 | refine below_set ?_ GE195.out) | exact HB.out)) hb); clear BK195; clear HB; have BK195 := n0_; have HB := n1_; clear n0_ n1_; (try clear hb); (try clear hb2); (try clear hk); (try clear hi))); try go_wp2_with (first | (go_at_call 47; (with_reducible refine (octavoref06_Truth.calls a0_2 t196 _ A12.out).mono ?_); rintro e w17 ⟨rfl, hb⟩; have n0_ := Aside0.mk (blk_below (g := gb195) (o := .cells #[.int .i64 a0_0, .int .i64 a0_1, .string a0_2] 23 (0, 0)) (by (with_reducible repeat (first | refine blk_drewN ?_ _ | refine blk_drew ?_ | refine blk_alloc ?_ _)); exact BK195.out) hb); have n1_ := Aside0.mk (below_step (by repeat (first | (with_reducible first | exact HB.out | apply below_alloc | apply pw_below_drewN | apply below_drew1 | refine below_set ?_ GE195.out) | exact HB.out)) hb); clear BK195; clear HB; have BK195 := n0_; have HB := n1_; clear n0_ n1_; (try clear hb); (try clear hb2); (try clear hk); (try clear hi))))
              go_ret2
              exact ⟨by first | rfl | (simp [errW_none, errW_some] <;> rfl) | (simp [*, errW_none, errW_some] <;> rfl), by repeat (first | (with_reducible first | exact HB.out | apply below_alloc | apply pw_below_drewN | apply below_drew1 | refine below_set ?_ GE195.out) | exact HB.out)⟩
          · rw [if_neg c11] at H
            have c11b0 : (a0_0 == 2) = false := beq_eq_false_iff_ne.mpr c11
            have c11b1 : (a0_0 != 2) = true := bne_iff_ne.mpr c11
            by_cases c18 : a0_0 = 4
            · rw [if_pos c18] at H
              have c18b0 : (a0_0 == 4) = true := beq_iff_eq.mpr c18
              have c18b1 : (a0_0 != 4) = false := bne_eq_false_iff_eq.mpr c18
              clear c18
              simp only [Option.some.injEq, Prod.mk.injEq] at H
              obtain ⟨rfl, rfl⟩ := H
              have hcz19_0 : wc.cell? ⟨gb195, 0, none⟩ = some (.int .i64 a0_0) := (blk_cell BK195.out 0).trans rfl
              have hcz19_1 : wc.cell? ⟨gb195, 1, none⟩ = some (.int .i64 a0_1) := (blk_cell BK195.out 1).trans rfl
              have hcz19_2 : wc.cell? ⟨gb195, 2, none⟩ = some (.string a0_2) := (blk_cell BK195.out 2).trans rfl
              have hfz19_0 := blk_frozen BK195.out 0
              have hfz19_1 := blk_frozen BK195.out 1
              have hfz19_2 := blk_frozen BK195.out 2
              go_wp2
              repeat (go_quiet (fail); try go_wp2)
              go_ret2
              exact ⟨by first | rfl | (simp [errW_none, errW_some] <;> rfl) | (simp [*, errW_none, errW_some] <;> rfl), by repeat (first | (with_reducible first | exact HB.out | apply below_alloc | apply pw_below_drewN | apply below_drew1 | refine below_set ?_ GE195.out) | exact HB.out)⟩
            · rw [if_neg c18] at H
              have c18b0 : (a0_0 == 4) = false := beq_eq_false_iff_ne.mpr c18
              have c18b1 : (a0_0 != 4) = true := bne_iff_ne.mpr c18
              simp only [Option.some.injEq, Prod.mk.injEq] at H
              obtain ⟨rfl, rfl⟩ := H
              go_wp2
              repeat (go_quiet (fail); try go_wp2)
              go_ret2
              exact ⟨by first | rfl | (simp [errW_none, errW_some] <;> rfl) | (simp [*, errW_none, errW_some] <;> rfl), by repeat (first | (with_reducible first | exact HB.out | apply below_alloc | apply pw_below_drewN | apply below_drew1 | refine below_set ?_ GE195.out) | exact HB.out)⟩

/-! ### value_Good: function 20 -/
def value_Good.f (a0_0 : Int) (a0_1 : Int) (a0_2 : ByteArray) : Option (Bool) := if a0_0 = 0 then (if a0_2.toList = ([] : List UInt8) then (if a0_1 = 0 then (some true) else (some false)) else (some false)) else (if a0_0 = 1 then (if a0_2.toList = ([] : List UInt8) then ((num_Good.f a0_1).bind fun t => (some t)) else (some false)) else (if a0_0 = 2 then (if a0_1 = 0 then (if (a0_2.size : Int) ≤ 255 then (some true) else (some false)) else (some false)) else (if a0_0 = 3 then (if a0_2.toList = ([] : List UInt8) then (if a0_1 = 0 then (some true) else (if a0_1 = 1 then (some true) else (some false))) else (some false)) else (if a0_0 = 4 then (if a0_2.toList = ([] : List UInt8) then (if 1 ≤ a0_1 then (if a0_1 ≤ 8 then (some true) else (some false)) else (some false)) else (some false)) else (if a0_2.toList = ([] : List UInt8) then (some false) else (some false))))))
set_option maxHeartbeats 8000000 in
set_option maxRecDepth 100000 in
theorem value_Good.calls (a0_0 : Int) (a0_1 : Int) (a0_2 : ByteArray) (r : Bool) (w : World) (h : value_Good.f a0_0 a0_1 a0_2 = some r) :
    Calls Tryd.prog 20 #[.agg #[.int .i64 a0_0, .int .i64 a0_1, .string a0_2]] w fun e w' => e = .returned (.bool r) ∧ Below w.heap.size w w' := by
  unfold value_Good.f at h
  have hu := Tryd.underlying23
  have hub := Tryd.underlying48
  by_cases c0 : a0_0 = 0
  · subst c0
    rw [if_pos rfl] at h
    by_cases d1 : a0_2.toList = ([] : List UInt8)
    · rw [if_pos d1] at h
      have d1b0 : (a0_2.toList == ([] : List UInt8)) = true := beq_iff_eq.mpr d1
      have d1b1 : (a0_2.toList != ([] : List UInt8)) = false := bne_eq_false_iff_eq.mpr d1
      clear d1
      by_cases d2 : a0_1 = 0
      · rw [if_pos d2] at h
        have d2b0 : (a0_1 == 0) = true := beq_iff_eq.mpr d2
        have d2b1 : (a0_1 != 0) = false := bne_eq_false_iff_eq.mpr d2
        clear d2
        obtain rfl := Option.some.inj h
        obtain ⟨ta0, ta1, ta2, ta3, ta4⟩ := value_own.ta0
        go_enter Tryd.func20, Tryd.ntmps20
        go_wp2_with (first | (go_at_call 38; refine (value_own.k0 _ _ _).mono ?_; rintro e w1 ⟨rfl, hb⟩; obtain ⟨hc, hb1, hz⟩ := value_own.kept hb; clear hb; have hc0 := hc 0; have hc1 := hc 1; have hc2 := hc 2; clear hc; simp only [List.getElem?_toArray, List.getElem?_cons_zero, List.getElem?_cons_succ] at hc0 hc1 hc2))
        go_ret
        exact ⟨rfl, by repeat (first | exact hb1 | exact hb1.trans (hq.mono hb1.size) | exact (Below.refl _ _).alloc (Nat.le_refl _) _ | refine Below.alloc ?_ (by first | exact hb1.size | exact (hb1.trans (hq.mono hb1.size)).size) _)⟩
      · rw [if_neg d2] at h
        have d2b0 : (a0_1 == 0) = false := beq_eq_false_iff_ne.mpr d2
        have d2b1 : (a0_1 != 0) = true := bne_iff_ne.mpr d2
        clear d2
        obtain rfl := Option.some.inj h
        obtain ⟨ta0, ta1, ta2, ta3, ta4⟩ := value_own.ta0
        go_enter Tryd.func20, Tryd.ntmps20
        go_wp2_with (first | (go_at_call 38; refine (value_own.k0 _ _ _).mono ?_; rintro e w1 ⟨rfl, hb⟩; obtain ⟨hc, hb1, hz⟩ := value_own.kept hb; clear hb; have hc0 := hc 0; have hc1 := hc 1; have hc2 := hc 2; clear hc; simp only [List.getElem?_toArray, List.getElem?_cons_zero, List.getElem?_cons_succ] at hc0 hc1 hc2))
        go_ret
        exact ⟨rfl, by repeat (first | exact hb1 | exact hb1.trans (hq.mono hb1.size) | exact (Below.refl _ _).alloc (Nat.le_refl _) _ | refine Below.alloc ?_ (by first | exact hb1.size | exact (hb1.trans (hq.mono hb1.size)).size) _)⟩
    · rw [if_neg d1] at h
      have d1b0 : (a0_2.toList == ([] : List UInt8)) = false := beq_eq_false_iff_ne.mpr d1
      have d1b1 : (a0_2.toList != ([] : List UInt8)) = true := bne_iff_ne.mpr d1
      clear d1
      obtain rfl := Option.some.inj h
      obtain ⟨ta0, ta1, ta2, ta3, ta4⟩ := value_own.ta0
      go_enter Tryd.func20, Tryd.ntmps20
      go_wp2_with (first | (go_at_call 38; refine (value_own.k0 _ _ _).mono ?_; rintro e w1 ⟨rfl, hb⟩; obtain ⟨hc, hb1, hz⟩ := value_own.kept hb; clear hb; have hc0 := hc 0; have hc1 := hc 1; have hc2 := hc 2; clear hc; simp only [List.getElem?_toArray, List.getElem?_cons_zero, List.getElem?_cons_succ] at hc0 hc1 hc2))
      go_ret
      exact ⟨rfl, by repeat (first | exact hb1 | exact hb1.trans (hq.mono hb1.size) | exact (Below.refl _ _).alloc (Nat.le_refl _) _ | refine Below.alloc ?_ (by first | exact hb1.size | exact (hb1.trans (hq.mono hb1.size)).size) _)⟩
  rw [if_neg c0] at h
  by_cases c1 : a0_0 = 1
  · subst c1
    rw [if_pos rfl] at h
    by_cases d3 : a0_2.toList = ([] : List UInt8)
    · rw [if_pos d3] at h
      have d3b0 : (a0_2.toList == ([] : List UInt8)) = true := beq_iff_eq.mpr d3
      have d3b1 : (a0_2.toList != ([] : List UInt8)) = false := bne_eq_false_iff_eq.mpr d3
      clear d3
      obtain ⟨t, hp4, h⟩ := Option.bind_eq_some_iff.mp h
      have Hhp4 := Aside0.mk hp4
      clear hp4
      obtain rfl := Option.some.inj h
      obtain ⟨ta0, ta1, ta2, ta3, ta4⟩ := value_own.ta1
      go_enter Tryd.func20, Tryd.ntmps20
      go_wp2_with (first | (go_at_call 38; refine (value_own.k1 _ _ _).mono ?_; rintro e w1 ⟨rfl, hb⟩; obtain ⟨hc, hb1, hz⟩ := value_own.kept hb; clear hb; have hc0 := hc 0; have hc1 := hc 1; have hc2 := hc 2; clear hc; simp only [List.getElem?_toArray, List.getElem?_cons_zero, List.getElem?_cons_succ] at hc0 hc1 hc2) | (go_at_call 48; refine (num_Good.calls _  _ _ Hhp4.out).mono ?_; rintro e w2 ⟨rfl, hq'⟩; have hq := hq'.below; clear hq'))
      go_ret
      exact ⟨rfl, by repeat (first | exact hb1 | exact hb1.trans (hq.mono hb1.size) | exact (Below.refl _ _).alloc (Nat.le_refl _) _ | refine Below.alloc ?_ (by first | exact hb1.size | exact (hb1.trans (hq.mono hb1.size)).size) _)⟩
    · rw [if_neg d3] at h
      have d3b0 : (a0_2.toList == ([] : List UInt8)) = false := beq_eq_false_iff_ne.mpr d3
      have d3b1 : (a0_2.toList != ([] : List UInt8)) = true := bne_iff_ne.mpr d3
      clear d3
      obtain rfl := Option.some.inj h
      obtain ⟨ta0, ta1, ta2, ta3, ta4⟩ := value_own.ta1
      go_enter Tryd.func20, Tryd.ntmps20
      go_wp2_with (first | (go_at_call 38; refine (value_own.k1 _ _ _).mono ?_; rintro e w1 ⟨rfl, hb⟩; obtain ⟨hc, hb1, hz⟩ := value_own.kept hb; clear hb; have hc0 := hc 0; have hc1 := hc 1; have hc2 := hc 2; clear hc; simp only [List.getElem?_toArray, List.getElem?_cons_zero, List.getElem?_cons_succ] at hc0 hc1 hc2))
      go_ret
      exact ⟨rfl, by repeat (first | exact hb1 | exact hb1.trans (hq.mono hb1.size) | exact (Below.refl _ _).alloc (Nat.le_refl _) _ | refine Below.alloc ?_ (by first | exact hb1.size | exact (hb1.trans (hq.mono hb1.size)).size) _)⟩
  rw [if_neg c1] at h
  by_cases c2 : a0_0 = 2
  · subst c2
    rw [if_pos rfl] at h
    by_cases d5 : a0_1 = 0
    · rw [if_pos d5] at h
      have d5b0 : (a0_1 == 0) = true := beq_iff_eq.mpr d5
      have d5b1 : (a0_1 != 0) = false := bne_eq_false_iff_eq.mpr d5
      clear d5
      by_cases d6 : (a0_2.size : Int) ≤ 255
      · rw [if_pos d6] at h
        have d6b0 : decide ((a0_2.size : Int) ≤ 255) = true := decide_eq_true d6
        have d6b1 : decide (a0_2.size ≤ 255) = true := decide_eq_true (by omega)
        clear d6
        obtain rfl := Option.some.inj h
        obtain ⟨ta0, ta1, ta2, ta3, ta4⟩ := value_own.ta2
        go_enter Tryd.func20, Tryd.ntmps20
        go_wp2_with (first | (go_at_call 38; refine (value_own.k2 _ _ _).mono ?_; rintro e w1 ⟨rfl, hb⟩; obtain ⟨hc, hb1, hz⟩ := value_own.kept hb; clear hb; have hc0 := hc 0; have hc1 := hc 1; have hc2 := hc 2; clear hc; simp only [List.getElem?_toArray, List.getElem?_cons_zero, List.getElem?_cons_succ] at hc0 hc1 hc2))
        go_ret
        exact ⟨rfl, by repeat (first | exact hb1 | exact hb1.trans (hq.mono hb1.size) | exact (Below.refl _ _).alloc (Nat.le_refl _) _ | refine Below.alloc ?_ (by first | exact hb1.size | exact (hb1.trans (hq.mono hb1.size)).size) _)⟩
      · rw [if_neg d6] at h
        have d6b0 : decide ((a0_2.size : Int) ≤ 255) = false := decide_eq_false d6
        have d6b1 : decide (a0_2.size ≤ 255) = false := decide_eq_false (by omega)
        clear d6
        obtain rfl := Option.some.inj h
        obtain ⟨ta0, ta1, ta2, ta3, ta4⟩ := value_own.ta2
        go_enter Tryd.func20, Tryd.ntmps20
        go_wp2_with (first | (go_at_call 38; refine (value_own.k2 _ _ _).mono ?_; rintro e w1 ⟨rfl, hb⟩; obtain ⟨hc, hb1, hz⟩ := value_own.kept hb; clear hb; have hc0 := hc 0; have hc1 := hc 1; have hc2 := hc 2; clear hc; simp only [List.getElem?_toArray, List.getElem?_cons_zero, List.getElem?_cons_succ] at hc0 hc1 hc2))
        go_ret
        exact ⟨rfl, by repeat (first | exact hb1 | exact hb1.trans (hq.mono hb1.size) | exact (Below.refl _ _).alloc (Nat.le_refl _) _ | refine Below.alloc ?_ (by first | exact hb1.size | exact (hb1.trans (hq.mono hb1.size)).size) _)⟩
    · rw [if_neg d5] at h
      have d5b0 : (a0_1 == 0) = false := beq_eq_false_iff_ne.mpr d5
      have d5b1 : (a0_1 != 0) = true := bne_iff_ne.mpr d5
      clear d5
      obtain rfl := Option.some.inj h
      obtain ⟨ta0, ta1, ta2, ta3, ta4⟩ := value_own.ta2
      go_enter Tryd.func20, Tryd.ntmps20
      go_wp2_with (first | (go_at_call 38; refine (value_own.k2 _ _ _).mono ?_; rintro e w1 ⟨rfl, hb⟩; obtain ⟨hc, hb1, hz⟩ := value_own.kept hb; clear hb; have hc0 := hc 0; have hc1 := hc 1; have hc2 := hc 2; clear hc; simp only [List.getElem?_toArray, List.getElem?_cons_zero, List.getElem?_cons_succ] at hc0 hc1 hc2))
      go_ret
      exact ⟨rfl, by repeat (first | exact hb1 | exact hb1.trans (hq.mono hb1.size) | exact (Below.refl _ _).alloc (Nat.le_refl _) _ | refine Below.alloc ?_ (by first | exact hb1.size | exact (hb1.trans (hq.mono hb1.size)).size) _)⟩
  rw [if_neg c2] at h
  by_cases c3 : a0_0 = 3
  · subst c3
    rw [if_pos rfl] at h
    by_cases d7 : a0_2.toList = ([] : List UInt8)
    · rw [if_pos d7] at h
      have d7b0 : (a0_2.toList == ([] : List UInt8)) = true := beq_iff_eq.mpr d7
      have d7b1 : (a0_2.toList != ([] : List UInt8)) = false := bne_eq_false_iff_eq.mpr d7
      clear d7
      by_cases d8 : a0_1 = 0
      · rw [if_pos d8] at h
        have d8b0 : (a0_1 == 0) = true := beq_iff_eq.mpr d8
        have d8b1 : (a0_1 != 0) = false := bne_eq_false_iff_eq.mpr d8
        clear d8
        obtain rfl := Option.some.inj h
        obtain ⟨ta0, ta1, ta2, ta3, ta4⟩ := value_own.ta3
        go_enter Tryd.func20, Tryd.ntmps20
        go_wp2_with (first | (go_at_call 38; refine (value_own.k3 _ _ _).mono ?_; rintro e w1 ⟨rfl, hb⟩; obtain ⟨hc, hb1, hz⟩ := value_own.kept hb; clear hb; have hc0 := hc 0; have hc1 := hc 1; have hc2 := hc 2; clear hc; simp only [List.getElem?_toArray, List.getElem?_cons_zero, List.getElem?_cons_succ] at hc0 hc1 hc2))
        go_ret
        exact ⟨rfl, by repeat (first | exact hb1 | exact hb1.trans (hq.mono hb1.size) | exact (Below.refl _ _).alloc (Nat.le_refl _) _ | refine Below.alloc ?_ (by first | exact hb1.size | exact (hb1.trans (hq.mono hb1.size)).size) _)⟩
      · rw [if_neg d8] at h
        have d8b0 : (a0_1 == 0) = false := beq_eq_false_iff_ne.mpr d8
        have d8b1 : (a0_1 != 0) = true := bne_iff_ne.mpr d8
        clear d8
        by_cases d9 : a0_1 = 1
        · rw [if_pos d9] at h
          have d9b0 : (a0_1 == 1) = true := beq_iff_eq.mpr d9
          have d9b1 : (a0_1 != 1) = false := bne_eq_false_iff_eq.mpr d9
          clear d9
          obtain rfl := Option.some.inj h
          obtain ⟨ta0, ta1, ta2, ta3, ta4⟩ := value_own.ta3
          go_enter Tryd.func20, Tryd.ntmps20
          go_wp2_with (first | (go_at_call 38; refine (value_own.k3 _ _ _).mono ?_; rintro e w1 ⟨rfl, hb⟩; obtain ⟨hc, hb1, hz⟩ := value_own.kept hb; clear hb; have hc0 := hc 0; have hc1 := hc 1; have hc2 := hc 2; clear hc; simp only [List.getElem?_toArray, List.getElem?_cons_zero, List.getElem?_cons_succ] at hc0 hc1 hc2))
          go_ret
          exact ⟨rfl, by repeat (first | exact hb1 | exact hb1.trans (hq.mono hb1.size) | exact (Below.refl _ _).alloc (Nat.le_refl _) _ | refine Below.alloc ?_ (by first | exact hb1.size | exact (hb1.trans (hq.mono hb1.size)).size) _)⟩
        · rw [if_neg d9] at h
          have d9b0 : (a0_1 == 1) = false := beq_eq_false_iff_ne.mpr d9
          have d9b1 : (a0_1 != 1) = true := bne_iff_ne.mpr d9
          clear d9
          obtain rfl := Option.some.inj h
          obtain ⟨ta0, ta1, ta2, ta3, ta4⟩ := value_own.ta3
          go_enter Tryd.func20, Tryd.ntmps20
          go_wp2_with (first | (go_at_call 38; refine (value_own.k3 _ _ _).mono ?_; rintro e w1 ⟨rfl, hb⟩; obtain ⟨hc, hb1, hz⟩ := value_own.kept hb; clear hb; have hc0 := hc 0; have hc1 := hc 1; have hc2 := hc 2; clear hc; simp only [List.getElem?_toArray, List.getElem?_cons_zero, List.getElem?_cons_succ] at hc0 hc1 hc2))
          go_ret
          exact ⟨rfl, by repeat (first | exact hb1 | exact hb1.trans (hq.mono hb1.size) | exact (Below.refl _ _).alloc (Nat.le_refl _) _ | refine Below.alloc ?_ (by first | exact hb1.size | exact (hb1.trans (hq.mono hb1.size)).size) _)⟩
    · rw [if_neg d7] at h
      have d7b0 : (a0_2.toList == ([] : List UInt8)) = false := beq_eq_false_iff_ne.mpr d7
      have d7b1 : (a0_2.toList != ([] : List UInt8)) = true := bne_iff_ne.mpr d7
      clear d7
      obtain rfl := Option.some.inj h
      obtain ⟨ta0, ta1, ta2, ta3, ta4⟩ := value_own.ta3
      go_enter Tryd.func20, Tryd.ntmps20
      go_wp2_with (first | (go_at_call 38; refine (value_own.k3 _ _ _).mono ?_; rintro e w1 ⟨rfl, hb⟩; obtain ⟨hc, hb1, hz⟩ := value_own.kept hb; clear hb; have hc0 := hc 0; have hc1 := hc 1; have hc2 := hc 2; clear hc; simp only [List.getElem?_toArray, List.getElem?_cons_zero, List.getElem?_cons_succ] at hc0 hc1 hc2))
      go_ret
      exact ⟨rfl, by repeat (first | exact hb1 | exact hb1.trans (hq.mono hb1.size) | exact (Below.refl _ _).alloc (Nat.le_refl _) _ | refine Below.alloc ?_ (by first | exact hb1.size | exact (hb1.trans (hq.mono hb1.size)).size) _)⟩
  rw [if_neg c3] at h
  by_cases c4 : a0_0 = 4
  · subst c4
    rw [if_pos rfl] at h
    by_cases d10 : a0_2.toList = ([] : List UInt8)
    · rw [if_pos d10] at h
      have d10b0 : (a0_2.toList == ([] : List UInt8)) = true := beq_iff_eq.mpr d10
      have d10b1 : (a0_2.toList != ([] : List UInt8)) = false := bne_eq_false_iff_eq.mpr d10
      clear d10
      by_cases d11 : 1 ≤ a0_1
      · rw [if_pos d11] at h
        have d11b0 : decide (1 ≤ a0_1) = true := decide_eq_true d11
        clear d11
        by_cases d12 : a0_1 ≤ 8
        · rw [if_pos d12] at h
          have d12b0 : decide (a0_1 ≤ 8) = true := decide_eq_true d12
          clear d12
          obtain rfl := Option.some.inj h
          obtain ⟨ta0, ta1, ta2, ta3, ta4⟩ := value_own.ta4
          go_enter Tryd.func20, Tryd.ntmps20
          go_wp2_with (first | (go_at_call 38; refine (value_own.k4 _ _ _).mono ?_; rintro e w1 ⟨rfl, hb⟩; obtain ⟨hc, hb1, hz⟩ := value_own.kept hb; clear hb; have hc0 := hc 0; have hc1 := hc 1; have hc2 := hc 2; clear hc; simp only [List.getElem?_toArray, List.getElem?_cons_zero, List.getElem?_cons_succ] at hc0 hc1 hc2))
          go_ret
          exact ⟨rfl, by repeat (first | exact hb1 | exact hb1.trans (hq.mono hb1.size) | exact (Below.refl _ _).alloc (Nat.le_refl _) _ | refine Below.alloc ?_ (by first | exact hb1.size | exact (hb1.trans (hq.mono hb1.size)).size) _)⟩
        · rw [if_neg d12] at h
          have d12b0 : decide (a0_1 ≤ 8) = false := decide_eq_false d12
          clear d12
          obtain rfl := Option.some.inj h
          obtain ⟨ta0, ta1, ta2, ta3, ta4⟩ := value_own.ta4
          go_enter Tryd.func20, Tryd.ntmps20
          go_wp2_with (first | (go_at_call 38; refine (value_own.k4 _ _ _).mono ?_; rintro e w1 ⟨rfl, hb⟩; obtain ⟨hc, hb1, hz⟩ := value_own.kept hb; clear hb; have hc0 := hc 0; have hc1 := hc 1; have hc2 := hc 2; clear hc; simp only [List.getElem?_toArray, List.getElem?_cons_zero, List.getElem?_cons_succ] at hc0 hc1 hc2))
          go_ret
          exact ⟨rfl, by repeat (first | exact hb1 | exact hb1.trans (hq.mono hb1.size) | exact (Below.refl _ _).alloc (Nat.le_refl _) _ | refine Below.alloc ?_ (by first | exact hb1.size | exact (hb1.trans (hq.mono hb1.size)).size) _)⟩
      · rw [if_neg d11] at h
        have d11b0 : decide (1 ≤ a0_1) = false := decide_eq_false d11
        clear d11
        obtain rfl := Option.some.inj h
        obtain ⟨ta0, ta1, ta2, ta3, ta4⟩ := value_own.ta4
        go_enter Tryd.func20, Tryd.ntmps20
        go_wp2_with (first | (go_at_call 38; refine (value_own.k4 _ _ _).mono ?_; rintro e w1 ⟨rfl, hb⟩; obtain ⟨hc, hb1, hz⟩ := value_own.kept hb; clear hb; have hc0 := hc 0; have hc1 := hc 1; have hc2 := hc 2; clear hc; simp only [List.getElem?_toArray, List.getElem?_cons_zero, List.getElem?_cons_succ] at hc0 hc1 hc2))
        go_ret
        exact ⟨rfl, by repeat (first | exact hb1 | exact hb1.trans (hq.mono hb1.size) | exact (Below.refl _ _).alloc (Nat.le_refl _) _ | refine Below.alloc ?_ (by first | exact hb1.size | exact (hb1.trans (hq.mono hb1.size)).size) _)⟩
    · rw [if_neg d10] at h
      have d10b0 : (a0_2.toList == ([] : List UInt8)) = false := beq_eq_false_iff_ne.mpr d10
      have d10b1 : (a0_2.toList != ([] : List UInt8)) = true := bne_iff_ne.mpr d10
      clear d10
      obtain rfl := Option.some.inj h
      obtain ⟨ta0, ta1, ta2, ta3, ta4⟩ := value_own.ta4
      go_enter Tryd.func20, Tryd.ntmps20
      go_wp2_with (first | (go_at_call 38; refine (value_own.k4 _ _ _).mono ?_; rintro e w1 ⟨rfl, hb⟩; obtain ⟨hc, hb1, hz⟩ := value_own.kept hb; clear hb; have hc0 := hc 0; have hc1 := hc 1; have hc2 := hc 2; clear hc; simp only [List.getElem?_toArray, List.getElem?_cons_zero, List.getElem?_cons_succ] at hc0 hc1 hc2))
      go_ret
      exact ⟨rfl, by repeat (first | exact hb1 | exact hb1.trans (hq.mono hb1.size) | exact (Below.refl _ _).alloc (Nat.le_refl _) _ | refine Below.alloc ?_ (by first | exact hb1.size | exact (hb1.trans (hq.mono hb1.size)).size) _)⟩
  rw [if_neg c4] at h
  have HX := fun w => value_own.kx a0_0 a0_1 a0_2 (beq_eq_false_iff_ne.mpr c0) (beq_eq_false_iff_ne.mpr c1) (beq_eq_false_iff_ne.mpr c2) (beq_eq_false_iff_ne.mpr c3) (beq_eq_false_iff_ne.mpr c4) w
  have n2 : (a0_0 != 2) = true := bne_iff_ne.mpr c2
  clear c0 c1 c2 c3 c4
  by_cases d13 : a0_2.toList = ([] : List UInt8)
  · rw [if_pos d13] at h
    have d13b0 : (a0_2.toList == ([] : List UInt8)) = true := beq_iff_eq.mpr d13
    have d13b1 : (a0_2.toList != ([] : List UInt8)) = false := bne_eq_false_iff_eq.mpr d13
    clear d13
    obtain rfl := Option.some.inj h
    obtain ⟨ta0, ta1, ta2, ta3, ta4⟩ := value_own.tax
    go_enter Tryd.func20, Tryd.ntmps20
    go_wp2_with (first | (go_at_call 38; refine (HX _).mono ?_; rintro e w1 ⟨rfl, hb⟩; obtain ⟨hc, hb1, hz⟩ := value_own.kept hb; clear hb; have hc0 := hc 0; have hc1 := hc 1; have hc2 := hc 2; clear hc; simp only [List.getElem?_toArray, List.getElem?_cons_zero, List.getElem?_cons_succ] at hc0 hc1 hc2))
    go_ret
    exact ⟨rfl, by repeat (first | exact hb1 | exact hb1.trans (hq.mono hb1.size) | exact (Below.refl _ _).alloc (Nat.le_refl _) _ | refine Below.alloc ?_ (by first | exact hb1.size | exact (hb1.trans (hq.mono hb1.size)).size) _)⟩
  · rw [if_neg d13] at h
    have d13b0 : (a0_2.toList == ([] : List UInt8)) = false := beq_eq_false_iff_ne.mpr d13
    have d13b1 : (a0_2.toList != ([] : List UInt8)) = true := bne_iff_ne.mpr d13
    clear d13
    obtain rfl := Option.some.inj h
    obtain ⟨ta0, ta1, ta2, ta3, ta4⟩ := value_own.tax
    go_enter Tryd.func20, Tryd.ntmps20
    go_wp2_with (first | (go_at_call 38; refine (HX _).mono ?_; rintro e w1 ⟨rfl, hb⟩; obtain ⟨hc, hb1, hz⟩ := value_own.kept hb; clear hb; have hc0 := hc 0; have hc1 := hc 1; have hc2 := hc 2; clear hc; simp only [List.getElem?_toArray, List.getElem?_cons_zero, List.getElem?_cons_succ] at hc0 hc1 hc2))
    go_ret
    exact ⟨rfl, by repeat (first | exact hb1 | exact hb1.trans (hq.mono hb1.size) | exact (Below.refl _ _).alloc (Nat.le_refl _) _ | refine Below.alloc ?_ (by first | exact hb1.size | exact (hb1.trans (hq.mono hb1.size)).size) _)⟩
end Go.Proofs.YtdbahgjfbleocaaDoor.P
