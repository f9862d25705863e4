-- Written by a program of this session (wip/tools/xprint.py), out of the seat's translation. Not trusted: Lean checks it.
import Derived.Test.YtdbahgjfbleocaaDoorPx0
import Derived.Test.YtdbahgjfbleocaaDoorPx1
import Derived.Test.YtdbahgjfbleocaaDoorPx2
import Derived.Test.YtdbahgjfbleocaaDoorPx3
import Derived.Test.YtdbahgjfbleocaaDoorPx4
namespace Go.Proofs.YtdbahgjfbleocaaDoor.P
open Go.RowKit Go.Proofs.YtdbahgjfbleocaaDoorW.PrintWords Go.Proofs.YtdbahgjfbleocaaDoorW.PrintLast Go.Proofs.YtdbahgjfbleocaaDoorW.PrintMore
attribute [local go_sem] max2_int min2_int max_two min_two max_three min_three max_four min_four X.binOp_str_gtr X.binOp_str_leq   -- for this text's walks alone
set_option linter.unusedVariables false
set_option linter.unusedSimpArgs false

attribute [local go_sem high] eqA23
/-! ### value_Typed: function 23 -/
def value_Typed.l0 : Nat → ByteArray → Int → Option (Int × Int × ByteArray)
  | 0, _, _ => none
  | k + 1, x0, x39 => if x39 < 9 then (if 0 ≤ x39 then (if (rdOf ByteArray.empty ([(⟨#[]⟩ : ByteArray), (⟨#[35, 68, 73, 86, 47, 48, 33]⟩ : ByteArray), (⟨#[35, 86, 65, 76, 85, 69, 33]⟩ : ByteArray), (⟨#[35, 82, 69, 70, 33]⟩ : ByteArray), (⟨#[35, 78, 65, 77, 69, 63]⟩ : ByteArray), (⟨#[35, 78, 85, 77, 33]⟩ : ByteArray), (⟨#[35, 78, 47, 65]⟩ : ByteArray), (⟨#[35, 67, 89, 67, 76, 69, 33]⟩ : ByteArray), (⟨#[35, 76, 73, 78, 75, 33]⟩ : ByteArray)] : List ByteArray) x39).toList = x0.toList then (some (4, x39, (⟨#[]⟩ : ByteArray))) else (value_Typed.l0 k x0 (wrap64 (x39 + 1)))) else (none)) else (some (2, 0, x0))
def value_Typed.f (k : Nat) (a0 : ByteArray) : Option (Int × Int × ByteArray) := if a0.toList = ([] : List UInt8) then (some (0, 0, (⟨#[]⟩ : ByteArray))) else ((strings_CutPrefix.f a0 (⟨#[39]⟩ : ByteArray)).bind fun bt134 => (if bt134.2 = true then (some (2, 0, bt134.1)) else ((num_Parse.f k a0).bind fun bt136 => (if bt136.2 = true then (some (1, bt136.1, (⟨#[]⟩ : ByteArray))) else ((value_word.f a0).bind fun bt138 => (if bt138.2 = true then ((value_flag.f bt138.1).bind fun bt140 => (some (bt140.1, bt140.2.1, bt140.2.2))) else ((value_faults.f).bind fun bz_0 => (value_Typed.l0 k a0 0))))))))
theorem value_Typed.mono_l : ∀ k, (∀ y0 y1, LeO (value_Typed.l0 k y0 y1) (value_Typed.l0 (k + 1) y0 y1))
  | 0 => fun _ _ r h => by simp [value_Typed.l0] at h
  | k + 1 => by
    have ih0 := value_Typed.mono_l k
    · intro y0 y1
      unfold value_Typed.l0
      repeat' first
      | (with_reducible exact ih0 _ _)
      | (with_reducible exact num_Parse.mono _ _)
      | (with_reducible exact LeO.refl _)
      | (with_reducible exact LeO.none _)
      | (with_reducible refine LeO.ite ?_ ?_)
      | (with_reducible refine LeO.bind ?_ (fun _ => ?_))
      | exact ih0 _ _
      | exact num_Parse.mono _ _
      | exact LeO.none _
      | refine LeO.ite ?_ ?_
      | refine LeO.bind ?_ (fun _ => ?_)
theorem value_Typed.mono : ∀ a0 k, LeO (value_Typed.f k a0) (value_Typed.f (k + 1) a0) := by
  intro a0 k
  have ih0 := value_Typed.mono_l k
  unfold value_Typed.f
  repeat' first
      | (with_reducible exact ih0 _ _)
      | (with_reducible exact num_Parse.mono _ _)
      | (with_reducible exact LeO.refl _)
      | (with_reducible exact LeO.none _)
      | (with_reducible refine LeO.ite ?_ ?_)
      | (with_reducible refine LeO.bind ?_ (fun _ => ?_))
      | exact ih0 _ _
      | exact num_Parse.mono _ _
      | exact LeO.none _
      | refine LeO.ite ?_ ?_
      | refine LeO.bind ?_ (fun _ => ?_)
set_option maxHeartbeats 8000000 in
set_option maxRecDepth 100000 in
theorem value_Typed.calls (k : Nat) (a0 : ByteArray) (r1 : Int) (r2 : Int) (r3 : ByteArray) (w : World) (h : value_Typed.f k a0 = some (r1, r2, r3)) :
    Calls Tryd.prog 23 #[.string a0] w fun e w' => e = .returned (.agg #[.int .i64 r1, .int .i64 r2, .string r3]) ∧ Below w.heap.size w w' := by
  have hu23 := Tryd.underlying23
  have HB := Aside0.mk (Below.refl w.heap.size w)
  have H : (if a0.toList = ([] : List UInt8) then (some (0, 0, (⟨#[]⟩ : ByteArray))) else ((strings_CutPrefix.f a0 (⟨#[39]⟩ : ByteArray)).bind fun bt134 => (if bt134.2 = true then (some (2, 0, bt134.1)) else ((num_Parse.f k a0).bind fun bt136 => (if bt136.2 = true then (some (1, bt136.1, (⟨#[]⟩ : ByteArray))) else ((value_word.f a0).bind fun bt138 => (if bt138.2 = true then ((value_flag.f bt138.1).bind fun bt140 => (some (bt140.1, bt140.2.1, bt140.2.2))) else ((value_faults.f).bind fun bz_0 => (value_Typed.l0 k a0 0))))))))) = some (r1, r2, r3) := h
  clear h
  by_cases c2 : a0.toList = ([] : List UInt8)
  · rw [if_pos c2] at H
    have c2b0 : (a0.toList == ([] : List UInt8)) = true := beq_iff_eq.mpr c2
    have c2b1 : (a0.toList != ([] : List UInt8)) = false := bne_eq_false_iff_eq.mpr c2
    clear c2
    simp only [Option.some.injEq, Prod.mk.injEq] at H
    obtain ⟨rfl, rfl, rfl⟩ := H
    go_enter Tryd.func23, Tryd.ntmps23
    go_wp2_with (first | ((with_reducible refine gate_dst (N := 2) rfl ?_); refine box_event ?hg (N := 2) ?hd (cs := #[.int .i64 0, .int .i64 0, .string (⟨#[]⟩ : ByteArray)]) (t := 23) ?hr ?_; (case hd => rfl); (case hg => rfl); (case hr => first | (go_simp; done) | (go_simp; rfl)); intro gb133 hg w3 hbox hb; have n0_ := Aside0.mk (below_step (by repeat (first | (with_reducible first | exact HB.out | apply below_alloc | apply pw_below_drewN | apply below_drew1) | exact HB.out)) hb); have n1_ := Aside0.mk (hbox); have n2_ := Aside0.mk ((by rw [hg]; exact (below_size (by repeat (first | (with_reducible first | exact HB.out | apply below_alloc | apply pw_below_drewN | apply below_drew1) | exact HB.out))) : w.heap.size ≤ gb133)); have n3_ := Aside0.mk ((by rw [hg]; exact (below_size (by repeat (first | (with_reducible first | exact HB.out | apply below_alloc | apply pw_below_drewN | apply below_drew1) | exact HB.out))) : w.heap.size ≤ gb133)); clear HB; have HB := n0_; have BK133 := n1_; have GW133 := n2_; have GE133 := n3_; clear n0_ n1_ n2_ n3_; clear hb hbox hg; have hcz4_0 : w3.cell? ⟨gb133, 0, none⟩ = some (.int .i64 0) := (blk_cell BK133.out 0).trans rfl; have hcz4_1 : w3.cell? ⟨gb133, 1, none⟩ = some (.int .i64 0) := (blk_cell BK133.out 1).trans rfl; have hcz4_2 : w3.cell? ⟨gb133, 2, none⟩ = some (.string (⟨#[]⟩ : ByteArray)) := (blk_cell BK133.out 2).trans rfl; have hfz4_0 := blk_frozen BK133.out 0; have hfz4_1 := blk_frozen BK133.out 1; have hfz4_2 := blk_frozen BK133.out 2))
    refine bodyPost_ret (results_cell_row rfl _ _ gb133 23 #[.int .i64 0, .int .i64 0, .string (⟨#[]⟩ : ByteArray)] (0, 0) _ rfl (by (with_reducible repeat (first | refine blk_drewN ?_ _ | refine blk_drew ?_ | refine blk_alloc ?_ _)); refine blk_put (cs := #[.int .i64 0, .int .i64 0, .string (⟨#[]⟩ : ByteArray)]) ?_ 2 _ rfl; (with_reducible repeat (first | refine blk_drewN ?_ _ | refine blk_drew ?_ | refine blk_alloc ?_ _)); refine blk_put (cs := #[.int .i64 0, .int .i64 0, .string (⟨#[]⟩ : ByteArray)]) ?_ 1 _ rfl; (with_reducible repeat (first | refine blk_drewN ?_ _ | refine blk_drew ?_ | refine blk_alloc ?_ _)); refine blk_put (cs := #[.int .i64 0, .int .i64 0, .string (⟨#[]⟩ : ByteArray)]) ?_ 0 _ rfl; (with_reducible repeat (first | refine blk_drewN ?_ _ | refine blk_drew ?_ | refine blk_alloc ?_ _)); exact BK133.out) Tryd.underlying23 rfl (by kernel_rfl)) rfl ?_
    exact ⟨by first | rfl | (simp [errW_none, errW_some] <;> rfl) | (simp [*, errW_none, errW_some] <;> rfl), by repeat (first | (with_reducible first | exact HB.out | apply below_alloc | apply pw_below_drewN | apply below_drew1 | refine below_set ?_ GE133.out) | exact HB.out)⟩
  · rw [if_neg c2] at H
    have c2b0 : (a0.toList == ([] : List UInt8)) = false := beq_eq_false_iff_ne.mpr c2
    have c2b1 : (a0.toList != ([] : List UInt8)) = true := bne_iff_ne.mpr c2
    replace H := Option.bind_eq_some_iff.mp H
    obtain ⟨⟨t134, t135⟩, A50, H⟩ := H
    replace H : (if t135 = true then (some (2, 0, t134)) else ((num_Parse.f k a0).bind fun bt136 => (if bt136.2 = true then (some (1, bt136.1, (⟨#[]⟩ : ByteArray))) else ((value_word.f a0).bind fun bt138 => (if bt138.2 = true then ((value_flag.f bt138.1).bind fun bt140 => (some (bt140.1, bt140.2.1, bt140.2.2))) else ((value_faults.f).bind fun bz_0 => (value_Typed.l0 k a0 0))))))) = some (r1, r2, r3) := H
    have A5 := Aside0.mk A50
    clear A50
    by_cases c6 : t135 = true
    · subst c6
      have H1 : (some (2, 0, t134)) = some (r1, r2, r3) := by rw [if_pos rfl] at H; exact H
      clear H
      have H := H1
      clear H1
      simp only [Option.some.injEq, Prod.mk.injEq] at H
      obtain ⟨rfl, rfl, rfl⟩ := H
      go_enter Tryd.func23, Tryd.ntmps23
      go_wp2_with (first | ((with_reducible refine gate_dst (N := 2) rfl ?_); refine box_event ?hg (N := 2) ?hd (cs := #[.int .i64 0, .int .i64 0, .string (⟨#[]⟩ : ByteArray)]) (t := 23) ?hr ?_; (case hd => rfl); (case hg => rfl); (case hr => first | (go_simp; done) | (go_simp; rfl)); intro gb133 hg w7 hbox hb; have n0_ := Aside0.mk (below_step (by repeat (first | (with_reducible first | exact HB.out | apply below_alloc | apply pw_below_drewN | apply below_drew1) | exact HB.out)) hb); have n1_ := Aside0.mk (hbox); have n2_ := Aside0.mk ((by rw [hg]; exact (below_size (by repeat (first | (with_reducible first | exact HB.out | apply below_alloc | apply pw_below_drewN | apply below_drew1) | exact HB.out))) : w.heap.size ≤ gb133)); have n3_ := Aside0.mk ((by rw [hg]; exact (below_size (by repeat (first | (with_reducible first | exact HB.out | apply below_alloc | apply pw_below_drewN | apply below_drew1) | exact HB.out))) : w.heap.size ≤ gb133)); clear HB; have HB := n0_; have BK133 := n1_; have GW133 := n2_; have GE133 := n3_; clear n0_ n1_ n2_ n3_; clear hb hbox hg) | ((with_reducible refine gate_callee (f := 53) rfl ?_); refine goesL_ (some 16) rfl rfl Tryd.func53 (by kernel_rfl) rfl #[.string a0, .string (⟨#[39]⟩ : ByteArray)] rfl (by (try simp only [List.map_toArray, List.map_cons, List.map_nil]); first | done | rfl | (simp only [List.length_drop, List.length_take]; rfl)) ?_; (with_reducible refine (strings_CutPrefix.calls a0 (⟨#[39]⟩ : ByteArray) t134 true _ A5.out).mono ?_); rintro e w' ⟨rfl, ⟨nd, rfl⟩⟩; refine ⟨_, rfl, ?_⟩; (try (rw [drewN_self w7]; generalize hq_ : World.drewN w7 _ = w7; have n0_ : Aside0 (w7.heap[gb133]? = some (.cells #[.int .i64 0, .int .i64 0, .string (⟨#[]⟩ : ByteArray)] 23 (0, 0))) := ⟨by rw [← hq_]; exact (by (with_reducible repeat (first | refine blk_drewN ?_ _ | refine blk_drew ?_ | refine blk_alloc ?_ _)); exact BK133.out)⟩; have n1_ : Aside0 (Below w.heap.size w w7) := ⟨by rw [← hq_]; exact (by repeat (first | (with_reducible first | exact HB.out | apply below_alloc | apply pw_below_drewN | apply below_drew1 | refine below_set ?_ GE133.out) | exact HB.out))⟩; clear BK133 HB hq_; have BK133 := n0_; have HB := n1_; clear n0_ n1_)); have hcz8_0 : w7.cell? ⟨gb133, 0, none⟩ = some (.int .i64 0) := (blk_cell BK133.out 0).trans rfl; have hcz8_1 : w7.cell? ⟨gb133, 1, none⟩ = some (.int .i64 0) := (blk_cell BK133.out 1).trans rfl; have hcz8_2 : w7.cell? ⟨gb133, 2, none⟩ = some (.string (⟨#[]⟩ : ByteArray)) := (blk_cell BK133.out 2).trans rfl; have hfz8_0 := blk_frozen BK133.out 0; have hfz8_1 := blk_frozen BK133.out 1; have hfz8_2 := blk_frozen BK133.out 2))
      refine bodyPost_ret (results_cell_row rfl _ _ gb133 23 #[.int .i64 2, .int .i64 0, .string t134] (0, 0) _ rfl (by (with_reducible repeat (first | refine blk_drewN ?_ _ | refine blk_drew ?_ | refine blk_alloc ?_ _)); refine blk_put (cs := #[.int .i64 2, .int .i64 0, .string (⟨#[]⟩ : ByteArray)]) ?_ 2 _ rfl; (with_reducible repeat (first | refine blk_drewN ?_ _ | refine blk_drew ?_ | refine blk_alloc ?_ _)); refine blk_put (cs := #[.int .i64 2, .int .i64 0, .string (⟨#[]⟩ : ByteArray)]) ?_ 1 _ rfl; (with_reducible repeat (first | refine blk_drewN ?_ _ | refine blk_drew ?_ | refine blk_alloc ?_ _)); refine blk_put (cs := #[.int .i64 0, .int .i64 0, .string (⟨#[]⟩ : ByteArray)]) ?_ 0 _ rfl; (with_reducible repeat (first | refine blk_drewN ?_ _ | refine blk_drew ?_ | refine blk_alloc ?_ _)); exact BK133.out) Tryd.underlying23 rfl (by kernel_rfl)) rfl ?_
      exact ⟨by first | rfl | (simp [errW_none, errW_some] <;> rfl) | (simp [*, errW_none, errW_some] <;> rfl), by repeat (first | (with_reducible first | exact HB.out | apply below_alloc | apply pw_below_drewN | apply below_drew1 | refine below_set ?_ GE133.out) | exact HB.out)⟩
    · replace c6 := Bool.eq_false_iff.mpr c6
      subst c6
      have H1 : ((num_Parse.f k a0).bind fun bt136 => (if bt136.2 = true then (some (1, bt136.1, (⟨#[]⟩ : ByteArray))) else ((value_word.f a0).bind fun bt138 => (if bt138.2 = true then ((value_flag.f bt138.1).bind fun bt140 => (some (bt140.1, bt140.2.1, bt140.2.2))) else ((value_faults.f).bind fun bz_0 => (value_Typed.l0 k a0 0)))))) = some (r1, r2, r3) := by rw [if_neg (show ¬ (false = true) by decide)] at H; exact H
      clear H
      have H := H1
      clear H1
      replace H := Option.bind_eq_some_iff.mp H
      obtain ⟨⟨t136, t137⟩, A90, H⟩ := H
      replace H : (if t137 = true then (some (1, t136, (⟨#[]⟩ : ByteArray))) else ((value_word.f a0).bind fun bt138 => (if bt138.2 = true then ((value_flag.f bt138.1).bind fun bt140 => (some (bt140.1, bt140.2.1, bt140.2.2))) else ((value_faults.f).bind fun bz_0 => (value_Typed.l0 k a0 0))))) = some (r1, r2, r3) := H
      have A9 := Aside0.mk A90
      clear A90
      by_cases c10 : t137 = true
      · subst c10
        have H1 : (some (1, t136, (⟨#[]⟩ : ByteArray))) = some (r1, r2, r3) := by rw [if_pos rfl] at H; exact H
        clear H
        have H := H1
        clear H1
        simp only [Option.some.injEq, Prod.mk.injEq] at H
        obtain ⟨rfl, rfl, rfl⟩ := H
        go_enter Tryd.func23, Tryd.ntmps23
        go_wp2_with (first | ((with_reducible refine gate_dst (N := 2) rfl ?_); refine box_event ?hg (N := 2) ?hd (cs := #[.int .i64 0, .int .i64 0, .string (⟨#[]⟩ : ByteArray)]) (t := 23) ?hr ?_; (case hd => rfl); (case hg => rfl); (case hr => first | (go_simp; done) | (go_simp; rfl)); intro gb133 hg w11 hbox hb; have n0_ := Aside0.mk (below_step (by repeat (first | (with_reducible first | exact HB.out | apply below_alloc | apply pw_below_drewN | apply below_drew1) | exact HB.out)) hb); have n1_ := Aside0.mk (hbox); have n2_ := Aside0.mk ((by rw [hg]; exact (below_size (by repeat (first | (with_reducible first | exact HB.out | apply below_alloc | apply pw_below_drewN | apply below_drew1) | exact HB.out))) : w.heap.size ≤ gb133)); have n3_ := Aside0.mk ((by rw [hg]; exact (below_size (by repeat (first | (with_reducible first | exact HB.out | apply below_alloc | apply pw_below_drewN | apply below_drew1) | exact HB.out))) : w.heap.size ≤ gb133)); clear HB; have HB := n0_; have BK133 := n1_; have GW133 := n2_; have GE133 := n3_; clear n0_ n1_ n2_ n3_; clear hb hbox hg) | ((with_reducible refine gate_callee (f := 53) rfl ?_); refine goesL_ (some 16) rfl rfl Tryd.func53 (by kernel_rfl) rfl #[.string a0, .string (⟨#[39]⟩ : ByteArray)] rfl (by (try simp only [List.map_toArray, List.map_cons, List.map_nil]); first | done | rfl | (simp only [List.length_drop, List.length_take]; rfl)) ?_; (with_reducible refine (strings_CutPrefix.calls a0 (⟨#[39]⟩ : ByteArray) t134 false _ A5.out).mono ?_); rintro e w' ⟨rfl, ⟨nd, rfl⟩⟩; refine ⟨_, rfl, ?_⟩; (try (rw [drewN_self w11]; generalize hq_ : World.drewN w11 _ = w11; have n0_ : Aside0 (w11.heap[gb133]? = some (.cells #[.int .i64 0, .int .i64 0, .string (⟨#[]⟩ : ByteArray)] 23 (0, 0))) := ⟨by rw [← hq_]; exact (by (with_reducible repeat (first | refine blk_drewN ?_ _ | refine blk_drew ?_ | refine blk_alloc ?_ _)); exact BK133.out)⟩; have n1_ : Aside0 (Below w.heap.size w w11) := ⟨by rw [← hq_]; exact (by repeat (first | (with_reducible first | exact HB.out | apply below_alloc | apply pw_below_drewN | apply below_drew1 | refine below_set ?_ GE133.out) | exact HB.out))⟩; clear BK133 HB hq_; have BK133 := n0_; have HB := n1_; clear n0_ n1_))) | ((with_reducible refine gate_callee (f := 39) rfl ?_); refine goesL_ (some 24) rfl rfl Tryd.func39 (by kernel_rfl) rfl #[.string a0] rfl (by (try simp only [List.map_toArray, List.map_cons, List.map_nil]); first | done | rfl | (simp only [List.length_drop, List.length_take]; rfl)) ?_; (with_reducible refine (num_Parse.calls k a0 t136 true _ A9.out).mono ?_); rintro e w12 ⟨rfl, hb⟩; refine ⟨_, rfl, ?_⟩; have n0_ := Aside0.mk (blk_below (g := gb133) (o := .cells #[.int .i64 0, .int .i64 0, .string (⟨#[]⟩ : ByteArray)] 23 (0, 0)) (by (with_reducible repeat (first | refine blk_drewN ?_ _ | refine blk_drew ?_ | refine blk_alloc ?_ _)); exact BK133.out) hb); have n1_ := Aside0.mk (below_step (by repeat (first | (with_reducible first | exact HB.out | apply below_alloc | apply pw_below_drewN | apply below_drew1 | refine below_set ?_ GE133.out) | exact HB.out)) hb); clear BK133; clear HB; have BK133 := n0_; have HB := n1_; clear n0_ n1_; (try clear hb); (try clear hb2); (try clear hk); (try clear hi); have hcz13_0 : w12.cell? ⟨gb133, 0, none⟩ = some (.int .i64 0) := (blk_cell BK133.out 0).trans rfl; have hcz13_1 : w12.cell? ⟨gb133, 1, none⟩ = some (.int .i64 0) := (blk_cell BK133.out 1).trans rfl; have hcz13_2 : w12.cell? ⟨gb133, 2, none⟩ = some (.string (⟨#[]⟩ : ByteArray)) := (blk_cell BK133.out 2).trans rfl; have hfz13_0 := blk_frozen BK133.out 0; have hfz13_1 := blk_frozen BK133.out 1; have hfz13_2 := blk_frozen BK133.out 2))
        refine bodyPost_ret (results_cell_row rfl _ _ gb133 23 #[.int .i64 1, .int .i64 t136, .string (⟨#[]⟩ : ByteArray)] (0, 0) _ rfl (by (with_reducible repeat (first | refine blk_drewN ?_ _ | refine blk_drew ?_ | refine blk_alloc ?_ _)); refine blk_put (cs := #[.int .i64 1, .int .i64 t136, .string (⟨#[]⟩ : ByteArray)]) ?_ 2 _ rfl; (with_reducible repeat (first | refine blk_drewN ?_ _ | refine blk_drew ?_ | refine blk_alloc ?_ _)); refine blk_put (cs := #[.int .i64 1, .int .i64 0, .string (⟨#[]⟩ : ByteArray)]) ?_ 1 _ rfl; (with_reducible repeat (first | refine blk_drewN ?_ _ | refine blk_drew ?_ | refine blk_alloc ?_ _)); refine blk_put (cs := #[.int .i64 0, .int .i64 0, .string (⟨#[]⟩ : ByteArray)]) ?_ 0 _ rfl; (with_reducible repeat (first | refine blk_drewN ?_ _ | refine blk_drew ?_ | refine blk_alloc ?_ _)); exact BK133.out) Tryd.underlying23 rfl (by kernel_rfl)) rfl ?_
        exact ⟨by first | rfl | (simp [errW_none, errW_some] <;> rfl) | (simp [*, errW_none, errW_some] <;> rfl), by repeat (first | (with_reducible first | exact HB.out | apply below_alloc | apply pw_below_drewN | apply below_drew1 | refine below_set ?_ GE133.out) | exact HB.out)⟩
      · replace c10 := Bool.eq_false_iff.mpr c10
        subst c10
        have H1 : ((value_word.f a0).bind fun bt138 => (if bt138.2 = true then ((value_flag.f bt138.1).bind fun bt140 => (some (bt140.1, bt140.2.1, bt140.2.2))) else ((value_faults.f).bind fun bz_0 => (value_Typed.l0 k a0 0)))) = some (r1, r2, r3) := by rw [if_neg (show ¬ (false = true) by decide)] at H; exact H
        clear H
        have H := H1
        clear H1
        replace H := Option.bind_eq_some_iff.mp H
        obtain ⟨⟨t138, t139⟩, A140, H⟩ := H
        replace H : (if t139 = true then ((value_flag.f t138).bind fun bt140 => (some (bt140.1, bt140.2.1, bt140.2.2))) else ((value_faults.f).bind fun bz_0 => (value_Typed.l0 k a0 0))) = some (r1, r2, r3) := H
        have A14 := Aside0.mk A140
        clear A140
        by_cases c15 : t139 = true
        · subst c15
          have H1 : ((value_flag.f t138).bind fun bt140 => (some (bt140.1, bt140.2.1, bt140.2.2))) = some (r1, r2, r3) := by rw [if_pos rfl] at H; exact H
          clear H
          have H := H1
          clear H1
          replace H := Option.bind_eq_some_iff.mp H
          obtain ⟨⟨t140, t141, t142⟩, A160, H⟩ := H
          replace H : (some (t140, t141, t142)) = some (r1, r2, r3) := H
          have A16 := Aside0.mk A160
          clear A160
          simp only [Option.some.injEq, Prod.mk.injEq] at H
          obtain ⟨rfl, rfl, rfl⟩ := H
          go_enter Tryd.func23, Tryd.ntmps23
          go_wp2_with (first | ((with_reducible refine gate_dst (N := 2) rfl ?_); refine box_event ?hg (N := 2) ?hd (cs := #[.int .i64 0, .int .i64 0, .string (⟨#[]⟩ : ByteArray)]) (t := 23) ?hr ?_; (case hd => rfl); (case hg => rfl); (case hr => first | (go_simp; done) | (go_simp; rfl)); intro gb133 hg w17 hbox hb; have n0_ := Aside0.mk (below_step (by repeat (first | (with_reducible first | exact HB.out | apply below_alloc | apply pw_below_drewN | apply below_drew1) | exact HB.out)) hb); have n1_ := Aside0.mk (hbox); have n2_ := Aside0.mk ((by rw [hg]; exact (below_size (by repeat (first | (with_reducible first | exact HB.out | apply below_alloc | apply pw_below_drewN | apply below_drew1) | exact HB.out))) : w.heap.size ≤ gb133)); have n3_ := Aside0.mk ((by rw [hg]; exact (below_size (by repeat (first | (with_reducible first | exact HB.out | apply below_alloc | apply pw_below_drewN | apply below_drew1) | exact HB.out))) : w.heap.size ≤ gb133)); clear HB; have HB := n0_; have BK133 := n1_; have GW133 := n2_; have GE133 := n3_; clear n0_ n1_ n2_ n3_; clear hb hbox hg) | ((with_reducible refine gate_callee (f := 53) rfl ?_); refine goesL_ (some 16) rfl rfl Tryd.func53 (by kernel_rfl) rfl #[.string a0, .string (⟨#[39]⟩ : ByteArray)] rfl (by (try simp only [List.map_toArray, List.map_cons, List.map_nil]); first | done | rfl | (simp only [List.length_drop, List.length_take]; rfl)) ?_; (with_reducible refine (strings_CutPrefix.calls a0 (⟨#[39]⟩ : ByteArray) t134 false _ A5.out).mono ?_); rintro e w' ⟨rfl, ⟨nd, rfl⟩⟩; refine ⟨_, rfl, ?_⟩; (try (rw [drewN_self w17]; generalize hq_ : World.drewN w17 _ = w17; have n0_ : Aside0 (w17.heap[gb133]? = some (.cells #[.int .i64 0, .int .i64 0, .string (⟨#[]⟩ : ByteArray)] 23 (0, 0))) := ⟨by rw [← hq_]; exact (by (with_reducible repeat (first | refine blk_drewN ?_ _ | refine blk_drew ?_ | refine blk_alloc ?_ _)); exact BK133.out)⟩; have n1_ : Aside0 (Below w.heap.size w w17) := ⟨by rw [← hq_]; exact (by repeat (first | (with_reducible first | exact HB.out | apply below_alloc | apply pw_below_drewN | apply below_drew1 | refine below_set ?_ GE133.out) | exact HB.out))⟩; clear BK133 HB hq_; have BK133 := n0_; have HB := n1_; clear n0_ n1_))) | ((with_reducible refine gate_callee (f := 39) rfl ?_); refine goesL_ (some 24) rfl rfl Tryd.func39 (by kernel_rfl) rfl #[.string a0] rfl (by (try simp only [List.map_toArray, List.map_cons, List.map_nil]); first | done | rfl | (simp only [List.length_drop, List.length_take]; rfl)) ?_; (with_reducible refine (num_Parse.calls k a0 t136 false _ A9.out).mono ?_); rintro e w18 ⟨rfl, hb⟩; refine ⟨_, rfl, ?_⟩; have n0_ := Aside0.mk (blk_below (g := gb133) (o := .cells #[.int .i64 0, .int .i64 0, .string (⟨#[]⟩ : ByteArray)] 23 (0, 0)) (by (with_reducible repeat (first | refine blk_drewN ?_ _ | refine blk_drew ?_ | refine blk_alloc ?_ _)); exact BK133.out) hb); have n1_ := Aside0.mk (below_step (by repeat (first | (with_reducible first | exact HB.out | apply below_alloc | apply pw_below_drewN | apply below_drew1 | refine below_set ?_ GE133.out) | exact HB.out)) hb); clear BK133; clear HB; have BK133 := n0_; have HB := n1_; clear n0_ n1_; (try clear hb); (try clear hb2); (try clear hk); (try clear hi)) | ((with_reducible refine gate_callee (f := 40) rfl ?_); refine goesL_ (some 32) rfl rfl Tryd.func40 (by kernel_rfl) rfl #[.string a0] rfl (by (try simp only [List.map_toArray, List.map_cons, List.map_nil]); first | done | rfl | (simp only [List.length_drop, List.length_take]; rfl)) ?_; (with_reducible refine (value_word.calls a0 t138 true _ A14.out).mono ?_); rintro e w19 ⟨rfl, hb⟩; refine ⟨_, rfl, ?_⟩; have n0_ := Aside0.mk (blk_below (g := gb133) (o := .cells #[.int .i64 0, .int .i64 0, .string (⟨#[]⟩ : ByteArray)] 23 (0, 0)) (by (with_reducible repeat (first | refine blk_drewN ?_ _ | refine blk_drew ?_ | refine blk_alloc ?_ _)); exact BK133.out) hb); have n1_ := Aside0.mk (below_step (by repeat (first | (with_reducible first | exact HB.out | apply below_alloc | apply pw_below_drewN | apply below_drew1 | refine below_set ?_ GE133.out) | exact HB.out)) hb); clear BK133; clear HB; have BK133 := n0_; have HB := n1_; clear n0_ n1_; (try clear hb); (try clear hb2); (try clear hk); (try clear hi)) | ((with_reducible refine gate_callee (f := 54) rfl ?_); refine goesL_ (some 37) rfl rfl Tryd.func54 (by kernel_rfl) rfl #[.bool t138] rfl (by (try simp only [List.map_toArray, List.map_cons, List.map_nil]); first | done | rfl | (simp only [List.length_drop, List.length_take]; rfl)) ?_; (with_reducible refine (value_flag.calls t138 t140 t141 t142 _ A16.out).mono ?_); rintro e w20 ⟨rfl, hb⟩; refine ⟨_, rfl, ?_⟩; have n0_ := Aside0.mk (blk_below (g := gb133) (o := .cells #[.int .i64 0, .int .i64 0, .string (⟨#[]⟩ : ByteArray)] 23 (0, 0)) (by (with_reducible repeat (first | refine blk_drewN ?_ _ | refine blk_drew ?_ | refine blk_alloc ?_ _)); exact BK133.out) hb); have n1_ := Aside0.mk (below_step (by repeat (first | (with_reducible first | exact HB.out | apply below_alloc | apply pw_below_drewN | apply below_drew1 | refine below_set ?_ GE133.out) | exact HB.out)) hb); clear BK133; clear HB; have BK133 := n0_; have HB := n1_; clear n0_ n1_; (try clear hb); (try clear hb2); (try clear hk); (try clear hi); have hcz21_0 : w20.cell? ⟨gb133, 0, none⟩ = some (.int .i64 0) := (blk_cell BK133.out 0).trans rfl; have hcz21_1 : w20.cell? ⟨gb133, 1, none⟩ = some (.int .i64 0) := (blk_cell BK133.out 1).trans rfl; have hcz21_2 : w20.cell? ⟨gb133, 2, none⟩ = some (.string (⟨#[]⟩ : ByteArray)) := (blk_cell BK133.out 2).trans rfl; have hfz21_0 := blk_frozen BK133.out 0; have hfz21_1 := blk_frozen BK133.out 1; have hfz21_2 := blk_frozen BK133.out 2))
          refine bodyPost_ret (results_cell_row rfl _ _ gb133 23 #[.int .i64 t140, .int .i64 t141, .string t142] (0, 0) _ rfl (by (with_reducible repeat (first | refine blk_drewN ?_ _ | refine blk_drew ?_ | refine blk_alloc ?_ _)); refine blk_put (cs := #[.int .i64 t140, .int .i64 t141, .string (⟨#[]⟩ : ByteArray)]) ?_ 2 _ rfl; (with_reducible repeat (first | refine blk_drewN ?_ _ | refine blk_drew ?_ | refine blk_alloc ?_ _)); refine blk_put (cs := #[.int .i64 t140, .int .i64 0, .string (⟨#[]⟩ : ByteArray)]) ?_ 1 _ rfl; (with_reducible repeat (first | refine blk_drewN ?_ _ | refine blk_drew ?_ | refine blk_alloc ?_ _)); refine blk_put (cs := #[.int .i64 0, .int .i64 0, .string (⟨#[]⟩ : ByteArray)]) ?_ 0 _ rfl; (with_reducible repeat (first | refine blk_drewN ?_ _ | refine blk_drew ?_ | refine blk_alloc ?_ _)); exact BK133.out) Tryd.underlying23 rfl (by kernel_rfl)) rfl ?_
          exact ⟨by first | rfl | (simp [errW_none, errW_some] <;> rfl) | (simp [*, errW_none, errW_some] <;> rfl), by repeat (first | (with_reducible first | exact HB.out | apply below_alloc | apply pw_below_drewN | apply below_drew1 | refine below_set ?_ GE133.out) | exact HB.out)⟩
        · replace c15 := Bool.eq_false_iff.mpr c15
          subst c15
          have H1 : ((value_faults.f).bind fun bz_0 => (value_Typed.l0 k a0 0)) = some (r1, r2, r3) := by rw [if_neg (show ¬ (false = true) by decide)] at H; exact H
          clear H
          have H := H1
          clear H1
          replace H := Option.bind_eq_some_iff.mp H
          obtain ⟨⟨z_23, z_24, z_25, z_26, z_27, z_28, z_29, z_30, z_31⟩, A220, H⟩ := H
          obtain ⟨rfl, rfl, rfl, rfl, rfl, rfl, rfl, rfl, rfl⟩ : (⟨#[]⟩ : ByteArray) = z_23 ∧ (⟨#[35, 68, 73, 86, 47, 48, 33]⟩ : ByteArray) = z_24 ∧ (⟨#[35, 86, 65, 76, 85, 69, 33]⟩ : ByteArray) = z_25 ∧ (⟨#[35, 82, 69, 70, 33]⟩ : ByteArray) = z_26 ∧ (⟨#[35, 78, 65, 77, 69, 63]⟩ : ByteArray) = z_27 ∧ (⟨#[35, 78, 85, 77, 33]⟩ : ByteArray) = z_28 ∧ (⟨#[35, 78, 47, 65]⟩ : ByteArray) = z_29 ∧ (⟨#[35, 67, 89, 67, 76, 69, 33]⟩ : ByteArray) = z_30 ∧ (⟨#[35, 76, 73, 78, 75, 33]⟩ : ByteArray) = z_31 := by simpa only [value_faults.f, Option.some.injEq, Prod.mk.injEq] using A220
          replace H : (value_Typed.l0 k a0 0) = some (r1, r2, r3) := H
          have A22 := Aside0.mk A220
          clear A220
          have H' := Aside0.mk H
          clear H
          go_enter Tryd.func23, Tryd.ntmps23
          go_wp2_with (first | ((with_reducible refine gate_dst (N := 2) rfl ?_); refine box_event ?hg (N := 2) ?hd (cs := #[.int .i64 0, .int .i64 0, .string (⟨#[]⟩ : ByteArray)]) (t := 23) ?hr ?_; (case hd => rfl); (case hg => rfl); (case hr => first | (go_simp; done) | (go_simp; rfl)); intro gb133 hg w32 hbox hb; have n0_ := Aside0.mk (below_step (by repeat (first | (with_reducible first | exact HB.out | apply below_alloc | apply pw_below_drewN | apply below_drew1) | exact HB.out)) hb); have n1_ := Aside0.mk (hbox); have n2_ := Aside0.mk ((by rw [hg]; exact (below_size (by repeat (first | (with_reducible first | exact HB.out | apply below_alloc | apply pw_below_drewN | apply below_drew1) | exact HB.out))) : w.heap.size ≤ gb133)); have n3_ := Aside0.mk ((by rw [hg]; exact (below_size (by repeat (first | (with_reducible first | exact HB.out | apply below_alloc | apply pw_below_drewN | apply below_drew1) | exact HB.out))) : w.heap.size ≤ gb133)); clear HB; have HB := n0_; have BK133 := n1_; have GW133 := n2_; have GE133 := n3_; clear n0_ n1_ n2_ n3_; clear hb hbox hg) | ((with_reducible refine gate_callee (f := 53) rfl ?_); refine goesL_ (some 16) rfl rfl Tryd.func53 (by kernel_rfl) rfl #[.string a0, .string (⟨#[39]⟩ : ByteArray)] rfl (by (try simp only [List.map_toArray, List.map_cons, List.map_nil]); first | done | rfl | (simp only [List.length_drop, List.length_take]; rfl)) ?_; (with_reducible refine (strings_CutPrefix.calls a0 (⟨#[39]⟩ : ByteArray) t134 false _ A5.out).mono ?_); rintro e w' ⟨rfl, ⟨nd, rfl⟩⟩; refine ⟨_, rfl, ?_⟩) | ((with_reducible refine gate_callee (f := 39) rfl ?_); refine goesL_ (some 24) rfl rfl Tryd.func39 (by kernel_rfl) rfl #[.string a0] rfl (by (try simp only [List.map_toArray, List.map_cons, List.map_nil]); first | done | rfl | (simp only [List.length_drop, List.length_take]; rfl)) ?_; (with_reducible refine (num_Parse.calls k a0 t136 false _ A9.out).mono ?_); rintro e w33 ⟨rfl, hb⟩; refine ⟨_, rfl, ?_⟩; have n0_ := Aside0.mk (blk_below (g := gb133) (o := .cells #[.int .i64 0, .int .i64 0, .string (⟨#[]⟩ : ByteArray)] 23 (0, 0)) (by (with_reducible repeat (first | refine blk_drewN ?_ _ | refine blk_drew ?_ | refine blk_alloc ?_ _)); exact BK133.out) hb); have n1_ := Aside0.mk (below_step (by repeat (first | (with_reducible first | exact HB.out | apply below_alloc | apply pw_below_drewN | apply below_drew1 | refine below_set ?_ GE133.out) | exact HB.out)) hb); clear BK133; clear HB; have BK133 := n0_; have HB := n1_; clear n0_ n1_; (try clear hb); (try clear hb2); (try clear hk); (try clear hi)) | ((with_reducible refine gate_callee (f := 40) rfl ?_); refine goesL_ (some 32) rfl rfl Tryd.func40 (by kernel_rfl) rfl #[.string a0] rfl (by (try simp only [List.map_toArray, List.map_cons, List.map_nil]); first | done | rfl | (simp only [List.length_drop, List.length_take]; rfl)) ?_; (with_reducible refine (value_word.calls a0 t138 false _ A14.out).mono ?_); rintro e w34 ⟨rfl, hb⟩; refine ⟨_, rfl, ?_⟩; have n0_ := Aside0.mk (blk_below (g := gb133) (o := .cells #[.int .i64 0, .int .i64 0, .string (⟨#[]⟩ : ByteArray)] 23 (0, 0)) (by (with_reducible repeat (first | refine blk_drewN ?_ _ | refine blk_drew ?_ | refine blk_alloc ?_ _)); exact BK133.out) hb); have n1_ := Aside0.mk (below_step (by repeat (first | (with_reducible first | exact HB.out | apply below_alloc | apply pw_below_drewN | apply below_drew1 | refine below_set ?_ GE133.out) | exact HB.out)) hb); clear BK133; clear HB; have BK133 := n0_; have HB := n1_; clear n0_ n1_; (try clear hb); (try clear hb2); (try clear hk); (try clear hi)) | ((with_reducible refine gate_callee (f := 50) rfl ?_); refine goesL_ (some 38) rfl rfl Tryd.func50 (by kernel_rfl) rfl #[] rfl (by (try simp only [List.map_toArray, List.map_cons, List.map_nil]); first | done | rfl | (simp only [List.length_drop, List.length_take]; rfl)) ?_; (with_reducible refine (value_faults.calls  (⟨#[]⟩ : ByteArray) (⟨#[35, 68, 73, 86, 47, 48, 33]⟩ : ByteArray) (⟨#[35, 86, 65, 76, 85, 69, 33]⟩ : ByteArray) (⟨#[35, 82, 69, 70, 33]⟩ : ByteArray) (⟨#[35, 78, 65, 77, 69, 63]⟩ : ByteArray) (⟨#[35, 78, 85, 77, 33]⟩ : ByteArray) (⟨#[35, 78, 47, 65]⟩ : ByteArray) (⟨#[35, 67, 89, 67, 76, 69, 33]⟩ : ByteArray) (⟨#[35, 76, 73, 78, 75, 33]⟩ : ByteArray) _ A22.out).mono ?_); rintro e w35 ⟨rfl, hb⟩; refine ⟨_, rfl, ?_⟩; have n0_ := Aside0.mk (blk_below (g := gb133) (o := .cells #[.int .i64 0, .int .i64 0, .string (⟨#[]⟩ : ByteArray)] 23 (0, 0)) (by (with_reducible repeat (first | refine blk_drewN ?_ _ | refine blk_drew ?_ | refine blk_alloc ?_ _)); exact BK133.out) hb); have n1_ := Aside0.mk (below_step (by repeat (first | (with_reducible first | exact HB.out | apply below_alloc | apply pw_below_drewN | apply below_drew1 | refine below_set ?_ GE133.out) | exact HB.out)) hb); clear BK133; clear HB; have BK133 := n0_; have HB := n1_; clear n0_ n1_; (try clear hb); (try clear hb2); (try clear hk); (try clear hi)))
          go_loopg [39] k (fun kq v39 w' => ∃ (x39_1 : Int) (x134000_1 : Int) (x134001_1 : Int) (x134002_1 : ByteArray), v39 = .int .i64 x39_1 ∧ Aside0 (value_Typed.l0 kq a0 x39_1 = some (r1, r2, r3)) ∧ Aside0 (kq ≤ k) ∧ Aside0 (w'.heap[gb133]? = some (.cells #[.int .i64 x134000_1, .int .i64 x134001_1, .string x134002_1] 23 (0, 0))) ∧ Aside0 (Below w.heap.size w w'))
          case atStart => exact ⟨(0), (0), (0), ((⟨#[]⟩ : ByteArray)), (by first | rfl | (simp; done) | (simp [*]; done)), H', ⟨Nat.le_refl _⟩, ⟨by (with_reducible repeat (first | refine blk_drewN ?_ _ | refine blk_drew ?_ | refine blk_alloc ?_ _)); exact BK133.out⟩, ⟨by repeat (first | (with_reducible first | exact HB.out | apply below_alloc | apply pw_below_drewN | apply below_drew1 | refine below_set ?_ GE133.out) | exact HB.out)⟩⟩
          case round =>
            clear H'
            try clear c1
            try clear c2
            try clear c2b0
            try clear c2b1
            try clear p2
            try clear c3
            try clear c4
            try clear c5
            try clear c6
            try clear c10
            try clear c15
            try clear c23
            try clear hcz13_0
            try clear hcz13_1
            try clear hcz13_2
            try clear hcz21_0
            try clear hcz21_1
            try clear hcz21_2
            try clear hcz4_0
            try clear hcz4_1
            try clear hcz4_2
            try clear hcz8_0
            try clear hcz8_1
            try clear hcz8_2
            try clear hfz13_0
            try clear hfz13_1
            try clear hfz13_2
            try clear hfz21_0
            try clear hfz21_1
            try clear hfz21_2
            try clear hfz4_0
            try clear hfz4_1
            try clear hfz4_2
            try clear hfz8_0
            try clear hfz8_1
            try clear hfz8_2
            obtain ⟨x39_1, x134000_1, x134001_1, x134002_1, rfl, HA, HK1, BK133, HB⟩ := hrel
            cases gk with
            | zero => exact absurd HA.out (by simp [value_Typed.l0])
            | succ k1 =>
              have H := HA.out
              clear HA
              simp only [value_Typed.l0] at H
              by_cases c36 : x39_1 < 9
              · rw [if_pos c36] at H
                have c36b0 : decide (x39_1 < 9) = true := decide_eq_true c36
                clear c36
                by_cases c37 : 0 ≤ x39_1
                · rw [if_pos c37] at H
                  have c37b0 : decide (0 ≤ x39_1) = true := decide_eq_true c37
                  clear c37
                  by_cases c39 : (rdOf ByteArray.empty ([(⟨#[]⟩ : ByteArray), (⟨#[35, 68, 73, 86, 47, 48, 33]⟩ : ByteArray), (⟨#[35, 86, 65, 76, 85, 69, 33]⟩ : ByteArray), (⟨#[35, 82, 69, 70, 33]⟩ : ByteArray), (⟨#[35, 78, 65, 77, 69, 63]⟩ : ByteArray), (⟨#[35, 78, 85, 77, 33]⟩ : ByteArray), (⟨#[35, 78, 47, 65]⟩ : ByteArray), (⟨#[35, 67, 89, 67, 76, 69, 33]⟩ : ByteArray), (⟨#[35, 76, 73, 78, 75, 33]⟩ : ByteArray)] : List ByteArray) x39_1).toList = a0.toList
                  · rw [if_pos c39] at H
                    have c39b0 : ((rdOf ByteArray.empty ([(⟨#[]⟩ : ByteArray), (⟨#[35, 68, 73, 86, 47, 48, 33]⟩ : ByteArray), (⟨#[35, 86, 65, 76, 85, 69, 33]⟩ : ByteArray), (⟨#[35, 82, 69, 70, 33]⟩ : ByteArray), (⟨#[35, 78, 65, 77, 69, 63]⟩ : ByteArray), (⟨#[35, 78, 85, 77, 33]⟩ : ByteArray), (⟨#[35, 78, 47, 65]⟩ : ByteArray), (⟨#[35, 67, 89, 67, 76, 69, 33]⟩ : ByteArray), (⟨#[35, 76, 73, 78, 75, 33]⟩ : ByteArray)] : List ByteArray) x39_1).toList == a0.toList) = true := beq_iff_eq.mpr c39
                    have c39b1 : ((rdOf ByteArray.empty ([(⟨#[]⟩ : ByteArray), (⟨#[35, 68, 73, 86, 47, 48, 33]⟩ : ByteArray), (⟨#[35, 86, 65, 76, 85, 69, 33]⟩ : ByteArray), (⟨#[35, 82, 69, 70, 33]⟩ : ByteArray), (⟨#[35, 78, 65, 77, 69, 63]⟩ : ByteArray), (⟨#[35, 78, 85, 77, 33]⟩ : ByteArray), (⟨#[35, 78, 47, 65]⟩ : ByteArray), (⟨#[35, 67, 89, 67, 76, 69, 33]⟩ : ByteArray), (⟨#[35, 76, 73, 78, 75, 33]⟩ : ByteArray)] : List ByteArray) x39_1).toList != a0.toList) = false := bne_eq_false_iff_eq.mpr c39
                    clear c39
                    simp only [Option.some.injEq, Prod.mk.injEq] at H
                    obtain ⟨rfl, rfl, rfl⟩ := H
                    have p38 : 0 ≤ (x39_1 : Int) := of_decide_eq_true (by first | (with_reducible assumption) | assumption)
                    have q38 : x39_1 < (9 : Int) := of_decide_eq_true (by first | (with_reducible assumption) | assumption)
                    have hx38 : ∀ w_ : World, (Instr.index 66 (.agg #[.string (⟨#[]⟩ : ByteArray), .string (⟨#[35, 68, 73, 86, 47, 48, 33]⟩ : ByteArray), .string (⟨#[35, 86, 65, 76, 85, 69, 33]⟩ : ByteArray), .string (⟨#[35, 82, 69, 70, 33]⟩ : ByteArray), .string (⟨#[35, 78, 65, 77, 69, 63]⟩ : ByteArray), .string (⟨#[35, 78, 85, 77, 33]⟩ : ByteArray), .string (⟨#[35, 78, 47, 65]⟩ : ByteArray), .string (⟨#[35, 67, 89, 67, 76, 69, 33]⟩ : ByteArray), .string (⟨#[35, 76, 73, 78, 75, 33]⟩ : ByteArray)]) (.int .i64 x39_1)).run Tryd.prog w_ = .ok (.string (rdOf ByteArray.empty ([(⟨#[]⟩ : ByteArray), (⟨#[35, 68, 73, 86, 47, 48, 33]⟩ : ByteArray), (⟨#[35, 86, 65, 76, 85, 69, 33]⟩ : ByteArray), (⟨#[35, 82, 69, 70, 33]⟩ : ByteArray), (⟨#[35, 78, 65, 77, 69, 63]⟩ : ByteArray), (⟨#[35, 78, 85, 77, 33]⟩ : ByteArray), (⟨#[35, 78, 47, 65]⟩ : ByteArray), (⟨#[35, 67, 89, 67, 76, 69, 33]⟩ : ByteArray), (⟨#[35, 76, 73, 78, 75, 33]⟩ : ByteArray)] : List ByteArray) x39_1)) w_ := fun w_ => Go.Proofs.YtdbahgjfbleocaaDoor.X.run_index_array 66 9 9 _ _ _ _ (by kernel_rfl) (by kernel_rfl) (by kernel_rfl) p38 q38 (Go.Proofs.YtdbahgjfbleocaaDoor.X.at_strs ([(⟨#[]⟩ : ByteArray), (⟨#[35, 68, 73, 86, 47, 48, 33]⟩ : ByteArray), (⟨#[35, 86, 65, 76, 85, 69, 33]⟩ : ByteArray), (⟨#[35, 82, 69, 70, 33]⟩ : ByteArray), (⟨#[35, 78, 65, 77, 69, 63]⟩ : ByteArray), (⟨#[35, 78, 85, 77, 33]⟩ : ByteArray), (⟨#[35, 78, 47, 65]⟩ : ByteArray), (⟨#[35, 67, 89, 67, 76, 69, 33]⟩ : ByteArray), (⟨#[35, 76, 73, 78, 75, 33]⟩ : ByteArray)] : List ByteArray) x39_1 q38 p38)
                    replace p38 := eq_true p38
                    replace q38 := eq_true q38
                    have hcz40_0 : wr.cell? ⟨gb133, 0, none⟩ = some (.int .i64 x134000_1) := (blk_cell BK133.out 0).trans rfl
                    have hcz40_1 : wr.cell? ⟨gb133, 1, none⟩ = some (.int .i64 x134001_1) := (blk_cell BK133.out 1).trans rfl
                    have hcz40_2 : wr.cell? ⟨gb133, 2, none⟩ = some (.string x134002_1) := (blk_cell BK133.out 2).trans rfl
                    have hfz40_0 := blk_frozen BK133.out 0
                    have hfz40_1 := blk_frozen BK133.out 1
                    have hfz40_2 := blk_frozen BK133.out 2
                    go_wp2
                    refine bodyPost_ret (results_cell_row rfl _ _ gb133 23 #[.int .i64 4, .int .i64 x39_1, .string (⟨#[]⟩ : ByteArray)] (0, 0) _ rfl (by (with_reducible repeat (first | refine blk_drewN ?_ _ | refine blk_drew ?_ | refine blk_alloc ?_ _)); refine blk_put (cs := #[.int .i64 4, .int .i64 x39_1, .string x134002_1]) ?_ 2 _ rfl; (with_reducible repeat (first | refine blk_drewN ?_ _ | refine blk_drew ?_ | refine blk_alloc ?_ _)); refine blk_put (cs := #[.int .i64 4, .int .i64 x134001_1, .string x134002_1]) ?_ 1 _ rfl; (with_reducible repeat (first | refine blk_drewN ?_ _ | refine blk_drew ?_ | refine blk_alloc ?_ _)); refine blk_put (cs := #[.int .i64 x134000_1, .int .i64 x134001_1, .string x134002_1]) ?_ 0 _ rfl; (with_reducible repeat (first | refine blk_drewN ?_ _ | refine blk_drew ?_ | refine blk_alloc ?_ _)); exact BK133.out) Tryd.underlying23 rfl (by kernel_rfl)) rfl ?_
                    exact ⟨by first | rfl | (simp [errW_none, errW_some] <;> rfl) | (simp [*, errW_none, errW_some] <;> rfl), by repeat (first | (with_reducible first | exact HB.out | apply below_alloc | apply pw_below_drewN | apply below_drew1 | refine below_set ?_ GE133.out) | exact HB.out)⟩
                  · rw [if_neg c39] at H
                    have c39b0 : ((rdOf ByteArray.empty ([(⟨#[]⟩ : ByteArray), (⟨#[35, 68, 73, 86, 47, 48, 33]⟩ : ByteArray), (⟨#[35, 86, 65, 76, 85, 69, 33]⟩ : ByteArray), (⟨#[35, 82, 69, 70, 33]⟩ : ByteArray), (⟨#[35, 78, 65, 77, 69, 63]⟩ : ByteArray), (⟨#[35, 78, 85, 77, 33]⟩ : ByteArray), (⟨#[35, 78, 47, 65]⟩ : ByteArray), (⟨#[35, 67, 89, 67, 76, 69, 33]⟩ : ByteArray), (⟨#[35, 76, 73, 78, 75, 33]⟩ : ByteArray)] : List ByteArray) x39_1).toList == a0.toList) = false := beq_eq_false_iff_ne.mpr c39
                    have c39b1 : ((rdOf ByteArray.empty ([(⟨#[]⟩ : ByteArray), (⟨#[35, 68, 73, 86, 47, 48, 33]⟩ : ByteArray), (⟨#[35, 86, 65, 76, 85, 69, 33]⟩ : ByteArray), (⟨#[35, 82, 69, 70, 33]⟩ : ByteArray), (⟨#[35, 78, 65, 77, 69, 63]⟩ : ByteArray), (⟨#[35, 78, 85, 77, 33]⟩ : ByteArray), (⟨#[35, 78, 47, 65]⟩ : ByteArray), (⟨#[35, 67, 89, 67, 76, 69, 33]⟩ : ByteArray), (⟨#[35, 76, 73, 78, 75, 33]⟩ : ByteArray)] : List ByteArray) x39_1).toList != a0.toList) = true := bne_iff_ne.mpr c39
                    have H' := Aside0.mk H
                    clear H
                    have p38 : 0 ≤ (x39_1 : Int) := of_decide_eq_true (by first | (with_reducible assumption) | assumption)
                    have q38 : x39_1 < (9 : Int) := of_decide_eq_true (by first | (with_reducible assumption) | assumption)
                    have hx38 : ∀ w_ : World, (Instr.index 66 (.agg #[.string (⟨#[]⟩ : ByteArray), .string (⟨#[35, 68, 73, 86, 47, 48, 33]⟩ : ByteArray), .string (⟨#[35, 86, 65, 76, 85, 69, 33]⟩ : ByteArray), .string (⟨#[35, 82, 69, 70, 33]⟩ : ByteArray), .string (⟨#[35, 78, 65, 77, 69, 63]⟩ : ByteArray), .string (⟨#[35, 78, 85, 77, 33]⟩ : ByteArray), .string (⟨#[35, 78, 47, 65]⟩ : ByteArray), .string (⟨#[35, 67, 89, 67, 76, 69, 33]⟩ : ByteArray), .string (⟨#[35, 76, 73, 78, 75, 33]⟩ : ByteArray)]) (.int .i64 x39_1)).run Tryd.prog w_ = .ok (.string (rdOf ByteArray.empty ([(⟨#[]⟩ : ByteArray), (⟨#[35, 68, 73, 86, 47, 48, 33]⟩ : ByteArray), (⟨#[35, 86, 65, 76, 85, 69, 33]⟩ : ByteArray), (⟨#[35, 82, 69, 70, 33]⟩ : ByteArray), (⟨#[35, 78, 65, 77, 69, 63]⟩ : ByteArray), (⟨#[35, 78, 85, 77, 33]⟩ : ByteArray), (⟨#[35, 78, 47, 65]⟩ : ByteArray), (⟨#[35, 67, 89, 67, 76, 69, 33]⟩ : ByteArray), (⟨#[35, 76, 73, 78, 75, 33]⟩ : ByteArray)] : List ByteArray) x39_1)) w_ := fun w_ => Go.Proofs.YtdbahgjfbleocaaDoor.X.run_index_array 66 9 9 _ _ _ _ (by kernel_rfl) (by kernel_rfl) (by kernel_rfl) p38 q38 (Go.Proofs.YtdbahgjfbleocaaDoor.X.at_strs ([(⟨#[]⟩ : ByteArray), (⟨#[35, 68, 73, 86, 47, 48, 33]⟩ : ByteArray), (⟨#[35, 86, 65, 76, 85, 69, 33]⟩ : ByteArray), (⟨#[35, 82, 69, 70, 33]⟩ : ByteArray), (⟨#[35, 78, 65, 77, 69, 63]⟩ : ByteArray), (⟨#[35, 78, 85, 77, 33]⟩ : ByteArray), (⟨#[35, 78, 47, 65]⟩ : ByteArray), (⟨#[35, 67, 89, 67, 76, 69, 33]⟩ : ByteArray), (⟨#[35, 76, 73, 78, 75, 33]⟩ : ByteArray)] : List ByteArray) x39_1 q38 p38)
                    replace p38 := eq_true p38
                    replace q38 := eq_true q38
                    go_wp2
                    go_roundg k1
                    case measure => have := HK1.out; omega
                    case rel => exact ⟨(wrap64 (x39_1 + 1)), (x134000_1), (x134001_1), (x134002_1), (by first | rfl | (simp; done) | (simp [*]; done)), H', ⟨by have := HK1.out; omega⟩, ⟨by (with_reducible repeat (first | refine blk_drewN ?_ _ | refine blk_drew ?_ | refine blk_alloc ?_ _)); exact BK133.out⟩, ⟨by repeat (first | (with_reducible first | exact HB.out | apply below_alloc | apply pw_below_drewN | apply below_drew1 | refine below_set ?_ GE133.out) | exact HB.out)⟩⟩
                · rw [if_neg c37] at H
                  exact absurd H (by simp)
              · rw [if_neg c36] at H
                have c36b0 : decide (x39_1 < 9) = false := decide_eq_false c36
                clear c36
                simp only [Option.some.injEq, Prod.mk.injEq] at H
                obtain ⟨rfl, rfl, rfl⟩ := H
                have hcz41_0 : wr.cell? ⟨gb133, 0, none⟩ = some (.int .i64 x134000_1) := (blk_cell BK133.out 0).trans rfl
                have hcz41_1 : wr.cell? ⟨gb133, 1, none⟩ = some (.int .i64 x134001_1) := (blk_cell BK133.out 1).trans rfl
                have hcz41_2 : wr.cell? ⟨gb133, 2, none⟩ = some (.string x134002_1) := (blk_cell BK133.out 2).trans rfl
                have hfz41_0 := blk_frozen BK133.out 0
                have hfz41_1 := blk_frozen BK133.out 1
                have hfz41_2 := blk_frozen BK133.out 2
                go_wp2
                refine bodyPost_ret (results_cell_row rfl _ _ gb133 23 #[.int .i64 2, .int .i64 0, .string a0] (0, 0) _ rfl (by (with_reducible repeat (first | refine blk_drewN ?_ _ | refine blk_drew ?_ | refine blk_alloc ?_ _)); refine blk_put (cs := #[.int .i64 2, .int .i64 0, .string x134002_1]) ?_ 2 _ rfl; (with_reducible repeat (first | refine blk_drewN ?_ _ | refine blk_drew ?_ | refine blk_alloc ?_ _)); refine blk_put (cs := #[.int .i64 2, .int .i64 x134001_1, .string x134002_1]) ?_ 1 _ rfl; (with_reducible repeat (first | refine blk_drewN ?_ _ | refine blk_drew ?_ | refine blk_alloc ?_ _)); refine blk_put (cs := #[.int .i64 x134000_1, .int .i64 x134001_1, .string x134002_1]) ?_ 0 _ rfl; (with_reducible repeat (first | refine blk_drewN ?_ _ | refine blk_drew ?_ | refine blk_alloc ?_ _)); exact BK133.out) Tryd.underlying23 rfl (by kernel_rfl)) rfl ?_
                exact ⟨by first | rfl | (simp [errW_none, errW_some] <;> rfl) | (simp [*, errW_none, errW_some] <;> rfl), by repeat (first | (with_reducible first | exact HB.out | apply below_alloc | apply pw_below_drewN | apply below_drew1 | refine below_set ?_ GE133.out) | exact HB.out)⟩

/-! ### value_Bad: function 33 -/
def value_Bad.f (a0 : Int) : Option (Int × Int × ByteArray) := if a0 < 1 then (some (4, 2, (⟨#[]⟩ : ByteArray))) else (if a0 > 8 then (some (4, 2, (⟨#[]⟩ : ByteArray))) else (some (4, a0, (⟨#[]⟩ : ByteArray))))
set_option maxHeartbeats 8000000 in
set_option maxRecDepth 100000 in
theorem value_Bad.calls (a0 : Int) (r1 : Int) (r2 : Int) (r3 : ByteArray) (w : World) (h : value_Bad.f a0 = some (r1, r2, r3)) :
    Calls Tryd.prog 33 #[.int .i64 a0] w fun e w' => e = .returned (.agg #[.int .i64 r1, .int .i64 r2, .string r3]) ∧ Below w.heap.size w w' := by
  have hu23 := Tryd.underlying23
  have HB := Aside0.mk (Below.refl w.heap.size w)
  have H : (if a0 < 1 then (some (4, 2, (⟨#[]⟩ : ByteArray))) else (if a0 > 8 then (some (4, 2, (⟨#[]⟩ : ByteArray))) else (some (4, a0, (⟨#[]⟩ : ByteArray))))) = some (r1, r2, r3) := h
  clear h
  by_cases c2 : a0 < 1
  · rw [if_pos c2] at H
    have c2b0 : decide (a0 < 1) = true := decide_eq_true c2
    clear c2
    simp only [Option.some.injEq, Prod.mk.injEq] at H
    obtain ⟨rfl, rfl, rfl⟩ := H
    go_enter Tryd.func33, Tryd.ntmps33
    go_wp2_with (first | ((with_reducible refine gate_dst (N := 2) rfl ?_); refine box_event ?hg (N := 2) ?hd (cs := #[.int .i64 0, .int .i64 0, .string (⟨#[]⟩ : ByteArray)]) (t := 23) ?hr ?_; (case hd => rfl); (case hg => rfl); (case hr => first | (go_simp; done) | (go_simp; rfl)); intro gb152 hg w3 hbox hb; have n0_ := Aside0.mk (below_step (by repeat (first | (with_reducible first | exact HB.out | apply below_alloc | apply pw_below_drewN | apply below_drew1) | exact HB.out)) hb); have n1_ := Aside0.mk (hbox); have n2_ := Aside0.mk ((by rw [hg]; exact (below_size (by repeat (first | (with_reducible first | exact HB.out | apply below_alloc | apply pw_below_drewN | apply below_drew1) | exact HB.out))) : w.heap.size ≤ gb152)); have n3_ := Aside0.mk ((by rw [hg]; exact (below_size (by repeat (first | (with_reducible first | exact HB.out | apply below_alloc | apply pw_below_drewN | apply below_drew1) | exact HB.out))) : w.heap.size ≤ gb152)); clear HB; have HB := n0_; have BK152 := n1_; have GW152 := n2_; have GE152 := n3_; clear n0_ n1_ n2_ n3_; clear hb hbox hg; have hcz4_0 : w3.cell? ⟨gb152, 0, none⟩ = some (.int .i64 0) := (blk_cell BK152.out 0).trans rfl; have hcz4_1 : w3.cell? ⟨gb152, 1, none⟩ = some (.int .i64 0) := (blk_cell BK152.out 1).trans rfl; have hcz4_2 : w3.cell? ⟨gb152, 2, none⟩ = some (.string (⟨#[]⟩ : ByteArray)) := (blk_cell BK152.out 2).trans rfl; have hfz4_0 := blk_frozen BK152.out 0; have hfz4_1 := blk_frozen BK152.out 1; have hfz4_2 := blk_frozen BK152.out 2))
    refine bodyPost_ret (results_cell_row rfl _ _ gb152 23 #[.int .i64 4, .int .i64 2, .string (⟨#[]⟩ : ByteArray)] (0, 0) _ rfl (by (with_reducible repeat (first | refine blk_drewN ?_ _ | refine blk_drew ?_ | refine blk_alloc ?_ _)); refine blk_put (cs := #[.int .i64 4, .int .i64 2, .string (⟨#[]⟩ : ByteArray)]) ?_ 2 _ rfl; (with_reducible repeat (first | refine blk_drewN ?_ _ | refine blk_drew ?_ | refine blk_alloc ?_ _)); refine blk_put (cs := #[.int .i64 4, .int .i64 0, .string (⟨#[]⟩ : ByteArray)]) ?_ 1 _ rfl; (with_reducible repeat (first | refine blk_drewN ?_ _ | refine blk_drew ?_ | refine blk_alloc ?_ _)); refine blk_put (cs := #[.int .i64 0, .int .i64 0, .string (⟨#[]⟩ : ByteArray)]) ?_ 0 _ rfl; (with_reducible repeat (first | refine blk_drewN ?_ _ | refine blk_drew ?_ | refine blk_alloc ?_ _)); exact BK152.out) Tryd.underlying23 rfl (by kernel_rfl)) rfl ?_
    exact ⟨by first | rfl | (simp [errW_none, errW_some] <;> rfl) | (simp [*, errW_none, errW_some] <;> rfl), by repeat (first | (with_reducible first | exact HB.out | apply below_alloc | apply pw_below_drewN | apply below_drew1 | refine below_set ?_ GE152.out) | exact HB.out)⟩
  · rw [if_neg c2] at H
    have c2b0 : decide (a0 < 1) = false := decide_eq_false c2
    clear c2
    by_cases c5 : a0 > 8
    · rw [if_pos c5] at H
      have c5b0 : decide (8 < a0) = true := decide_eq_true c5
      clear c5
      simp only [Option.some.injEq, Prod.mk.injEq] at H
      obtain ⟨rfl, rfl, rfl⟩ := H
      go_enter Tryd.func33, Tryd.ntmps33
      go_wp2_with (first | ((with_reducible refine gate_dst (N := 2) rfl ?_); refine box_event ?hg (N := 2) ?hd (cs := #[.int .i64 0, .int .i64 0, .string (⟨#[]⟩ : ByteArray)]) (t := 23) ?hr ?_; (case hd => rfl); (case hg => rfl); (case hr => first | (go_simp; done) | (go_simp; rfl)); intro gb152 hg w6 hbox hb; have n0_ := Aside0.mk (below_step (by repeat (first | (with_reducible first | exact HB.out | apply below_alloc | apply pw_below_drewN | apply below_drew1) | exact HB.out)) hb); have n1_ := Aside0.mk (hbox); have n2_ := Aside0.mk ((by rw [hg]; exact (below_size (by repeat (first | (with_reducible first | exact HB.out | apply below_alloc | apply pw_below_drewN | apply below_drew1) | exact HB.out))) : w.heap.size ≤ gb152)); have n3_ := Aside0.mk ((by rw [hg]; exact (below_size (by repeat (first | (with_reducible first | exact HB.out | apply below_alloc | apply pw_below_drewN | apply below_drew1) | exact HB.out))) : w.heap.size ≤ gb152)); clear HB; have HB := n0_; have BK152 := n1_; have GW152 := n2_; have GE152 := n3_; clear n0_ n1_ n2_ n3_; clear hb hbox hg; have hcz7_0 : w6.cell? ⟨gb152, 0, none⟩ = some (.int .i64 0) := (blk_cell BK152.out 0).trans rfl; have hcz7_1 : w6.cell? ⟨gb152, 1, none⟩ = some (.int .i64 0) := (blk_cell BK152.out 1).trans rfl; have hcz7_2 : w6.cell? ⟨gb152, 2, none⟩ = some (.string (⟨#[]⟩ : ByteArray)) := (blk_cell BK152.out 2).trans rfl; have hfz7_0 := blk_frozen BK152.out 0; have hfz7_1 := blk_frozen BK152.out 1; have hfz7_2 := blk_frozen BK152.out 2))
      refine bodyPost_ret (results_cell_row rfl _ _ gb152 23 #[.int .i64 4, .int .i64 2, .string (⟨#[]⟩ : ByteArray)] (0, 0) _ rfl (by (with_reducible repeat (first | refine blk_drewN ?_ _ | refine blk_drew ?_ | refine blk_alloc ?_ _)); refine blk_put (cs := #[.int .i64 4, .int .i64 2, .string (⟨#[]⟩ : ByteArray)]) ?_ 2 _ rfl; (with_reducible repeat (first | refine blk_drewN ?_ _ | refine blk_drew ?_ | refine blk_alloc ?_ _)); refine blk_put (cs := #[.int .i64 4, .int .i64 0, .string (⟨#[]⟩ : ByteArray)]) ?_ 1 _ rfl; (with_reducible repeat (first | refine blk_drewN ?_ _ | refine blk_drew ?_ | refine blk_alloc ?_ _)); refine blk_put (cs := #[.int .i64 0, .int .i64 0, .string (⟨#[]⟩ : ByteArray)]) ?_ 0 _ rfl; (with_reducible repeat (first | refine blk_drewN ?_ _ | refine blk_drew ?_ | refine blk_alloc ?_ _)); exact BK152.out) Tryd.underlying23 rfl (by kernel_rfl)) rfl ?_
      exact ⟨by first | rfl | (simp [errW_none, errW_some] <;> rfl) | (simp [*, errW_none, errW_some] <;> rfl), by repeat (first | (with_reducible first | exact HB.out | apply below_alloc | apply pw_below_drewN | apply below_drew1 | refine below_set ?_ GE152.out) | exact HB.out)⟩
    · rw [if_neg c5] at H
      have c5b0 : decide (8 < a0) = false := decide_eq_false c5
      clear c5
      simp only [Option.some.injEq, Prod.mk.injEq] at H
      obtain ⟨rfl, rfl, rfl⟩ := H
      go_enter Tryd.func33, Tryd.ntmps33
      go_wp2_with (first | ((with_reducible refine gate_dst (N := 2) rfl ?_); refine box_event ?hg (N := 2) ?hd (cs := #[.int .i64 0, .int .i64 0, .string (⟨#[]⟩ : ByteArray)]) (t := 23) ?hr ?_; (case hd => rfl); (case hg => rfl); (case hr => first | (go_simp; done) | (go_simp; rfl)); intro gb152 hg w8 hbox hb; have n0_ := Aside0.mk (below_step (by repeat (first | (with_reducible first | exact HB.out | apply below_alloc | apply pw_below_drewN | apply below_drew1) | exact HB.out)) hb); have n1_ := Aside0.mk (hbox); have n2_ := Aside0.mk ((by rw [hg]; exact (below_size (by repeat (first | (with_reducible first | exact HB.out | apply below_alloc | apply pw_below_drewN | apply below_drew1) | exact HB.out))) : w.heap.size ≤ gb152)); have n3_ := Aside0.mk ((by rw [hg]; exact (below_size (by repeat (first | (with_reducible first | exact HB.out | apply below_alloc | apply pw_below_drewN | apply below_drew1) | exact HB.out))) : w.heap.size ≤ gb152)); clear HB; have HB := n0_; have BK152 := n1_; have GW152 := n2_; have GE152 := n3_; clear n0_ n1_ n2_ n3_; clear hb hbox hg; have hcz9_0 : w8.cell? ⟨gb152, 0, none⟩ = some (.int .i64 0) := (blk_cell BK152.out 0).trans rfl; have hcz9_1 : w8.cell? ⟨gb152, 1, none⟩ = some (.int .i64 0) := (blk_cell BK152.out 1).trans rfl; have hcz9_2 : w8.cell? ⟨gb152, 2, none⟩ = some (.string (⟨#[]⟩ : ByteArray)) := (blk_cell BK152.out 2).trans rfl; have hfz9_0 := blk_frozen BK152.out 0; have hfz9_1 := blk_frozen BK152.out 1; have hfz9_2 := blk_frozen BK152.out 2))
      refine bodyPost_ret (results_cell_row rfl _ _ gb152 23 #[.int .i64 4, .int .i64 a0, .string (⟨#[]⟩ : ByteArray)] (0, 0) _ rfl (by (with_reducible repeat (first | refine blk_drewN ?_ _ | refine blk_drew ?_ | refine blk_alloc ?_ _)); refine blk_put (cs := #[.int .i64 4, .int .i64 a0, .string (⟨#[]⟩ : ByteArray)]) ?_ 2 _ rfl; (with_reducible repeat (first | refine blk_drewN ?_ _ | refine blk_drew ?_ | refine blk_alloc ?_ _)); refine blk_put (cs := #[.int .i64 4, .int .i64 0, .string (⟨#[]⟩ : ByteArray)]) ?_ 1 _ rfl; (with_reducible repeat (first | refine blk_drewN ?_ _ | refine blk_drew ?_ | refine blk_alloc ?_ _)); refine blk_put (cs := #[.int .i64 0, .int .i64 0, .string (⟨#[]⟩ : ByteArray)]) ?_ 0 _ rfl; (with_reducible repeat (first | refine blk_drewN ?_ _ | refine blk_drew ?_ | refine blk_alloc ?_ _)); exact BK152.out) Tryd.underlying23 rfl (by kernel_rfl)) rfl ?_
      exact ⟨by first | rfl | (simp [errW_none, errW_some] <;> rfl) | (simp [*, errW_none, errW_some] <;> rfl), by repeat (first | (with_reducible first | exact HB.out | apply below_alloc | apply pw_below_drewN | apply below_drew1 | refine below_set ?_ GE152.out) | exact HB.out)⟩

/-! ### octavolaw06_lives: function 10 -/
def octavolaw06_lives.f (k : Nat)  : Option (Bool) := (value_ToNum.f k 2 0 (⟨#[120]⟩ : ByteArray)).bind fun bt153 => ((value_Typed.f k (⟨#[49, 46, 53]⟩ : ByteArray)).bind fun bt155 => (if (bt155.1 == 1 && (bt155.2.1 == 15000 && (bt155.2.2.toList == ([] : List UInt8)))) = true then ((value_Typed.f k (⟨#[39, 49]⟩ : ByteArray)).bind fun bt158 => (if (bt158.1 == 2 && (bt158.2.1 == 0 && (bt158.2.2.toList == ([49] : List UInt8)))) = true then (if bt153.2 = 2 then ((value_Bad.f 6).bind fun bt161 => ((value_Text.f k bt161.1 bt161.2.1 bt161.2.2).bind fun t164 => (some (t164.toList == ([35, 78, 47, 65] : List UInt8))))) else (none)) else (none))) else (none)))
theorem octavolaw06_lives.mono : ∀ k, LeO (octavolaw06_lives.f k ) (octavolaw06_lives.f (k + 1) ) := by
  intro  k
  unfold octavolaw06_lives.f
  repeat' first
      | (with_reducible exact value_Text.mono _ _ _ _)
      | (with_reducible exact value_ToNum.mono _ _ _ _)
      | (with_reducible exact value_Typed.mono _ _)
      | (with_reducible exact LeO.refl _)
      | (with_reducible exact LeO.none _)
      | (with_reducible refine LeO.ite ?_ ?_)
      | (with_reducible refine LeO.bind ?_ (fun _ => ?_))
      | exact value_Text.mono _ _ _ _
      | exact value_ToNum.mono _ _ _ _
      | exact value_Typed.mono _ _
      | exact LeO.none _
      | refine LeO.ite ?_ ?_
      | refine LeO.bind ?_ (fun _ => ?_)
set_option maxHeartbeats 8000000 in
set_option maxRecDepth 100000 in
theorem octavolaw06_lives.calls (k : Nat)  (r : Bool) (w : World) (h : octavolaw06_lives.f k  = some r) :
    Calls Tryd.prog 10 #[] w fun e w' => e = .returned (.bool r) ∧ Below w.heap.size w w' := by
  have hu23 := Tryd.underlying23
  have HB := Aside0.mk (Below.refl w.heap.size w)
  have H : ((value_ToNum.f k 2 0 (⟨#[120]⟩ : ByteArray)).bind fun bt153 => ((value_Typed.f k (⟨#[49, 46, 53]⟩ : ByteArray)).bind fun bt155 => (if (bt155.1 == 1 && (bt155.2.1 == 15000 && (bt155.2.2.toList == ([] : List UInt8)))) = true then ((value_Typed.f k (⟨#[39, 49]⟩ : ByteArray)).bind fun bt158 => (if (bt158.1 == 2 && (bt158.2.1 == 0 && (bt158.2.2.toList == ([49] : List UInt8)))) = true then (if bt153.2 = 2 then ((value_Bad.f 6).bind fun bt161 => ((value_Text.f k bt161.1 bt161.2.1 bt161.2.2).bind fun t164 => (some (t164.toList == ([35, 78, 47, 65] : List UInt8))))) else (none)) else (none))) else (none)))) = some r := h
  clear h
  replace H := Option.bind_eq_some_iff.mp H
  obtain ⟨⟨t153, t154⟩, A10, H⟩ := H
  replace H : ((value_Typed.f k (⟨#[49, 46, 53]⟩ : ByteArray)).bind fun bt155 => (if (bt155.1 == 1 && (bt155.2.1 == 15000 && (bt155.2.2.toList == ([] : List UInt8)))) = true then ((value_Typed.f k (⟨#[39, 49]⟩ : ByteArray)).bind fun bt158 => (if (bt158.1 == 2 && (bt158.2.1 == 0 && (bt158.2.2.toList == ([49] : List UInt8)))) = true then (if t154 = 2 then ((value_Bad.f 6).bind fun bt161 => ((value_Text.f k bt161.1 bt161.2.1 bt161.2.2).bind fun t164 => (some (t164.toList == ([35, 78, 47, 65] : List UInt8))))) else (none)) else (none))) else (none))) = some r := H
  have A1 := Aside0.mk A10
  clear A10
  replace H := Option.bind_eq_some_iff.mp H
  obtain ⟨⟨t155, t156, t157⟩, A20, H⟩ := H
  replace H : (if (t155 == 1 && (t156 == 15000 && (t157.toList == ([] : List UInt8)))) = true then ((value_Typed.f k (⟨#[39, 49]⟩ : ByteArray)).bind fun bt158 => (if (bt158.1 == 2 && (bt158.2.1 == 0 && (bt158.2.2.toList == ([49] : List UInt8)))) = true then (if t154 = 2 then ((value_Bad.f 6).bind fun bt161 => ((value_Text.f k bt161.1 bt161.2.1 bt161.2.2).bind fun t164 => (some (t164.toList == ([35, 78, 47, 65] : List UInt8))))) else (none)) else (none))) else (none)) = some r := H
  have A2 := Aside0.mk A20
  clear A20
  by_cases c3 : (t155 == 1 && (t156 == 15000 && (t157.toList == ([] : List UInt8)))) = true
  · rw [if_pos c3] at H
    have c3b0 : (t155 == 1 && (t156 == 15000 && (t157.toList == ([] : List UInt8)))) = true := c3
    (try (have c3b1 : (t155 == 1 && (t156 == 15000 && t157.toList.isEmpty)) = true := by simpa using c3))
    (try (have c3b2 : decide (t155 = 1 && (t156 == 15000 && (t157.toList == ([] : List UInt8)))) = true := by simpa using c3))
    (try (have c3b3 : (t155 == 1 && (t156 == 15000 && (t157.toList == ([] : List UInt8)))) = true := by simpa using c3))
    clear c3
    replace H := Option.bind_eq_some_iff.mp H
    obtain ⟨⟨t158, t159, t160⟩, A40, H⟩ := H
    replace H : (if (t158 == 2 && (t159 == 0 && (t160.toList == ([49] : List UInt8)))) = true then (if t154 = 2 then ((value_Bad.f 6).bind fun bt161 => ((value_Text.f k bt161.1 bt161.2.1 bt161.2.2).bind fun t164 => (some (t164.toList == ([35, 78, 47, 65] : List UInt8))))) else (none)) else (none)) = some r := H
    have A4 := Aside0.mk A40
    clear A40
    by_cases c5 : (t158 == 2 && (t159 == 0 && (t160.toList == ([49] : List UInt8)))) = true
    · rw [if_pos c5] at H
      have c5b0 : (t158 == 2 && (t159 == 0 && (t160.toList == ([49] : List UInt8)))) = true := c5
      (try (have c5b1 : decide (t158 = 2 && (t159 == 0 && (t160.toList == ([49] : List UInt8)))) = true := by simpa using c5))
      (try (have c5b2 : (t158 == 2 && (t159 == 0 && (t160.toList == ([49] : List UInt8)))) = true := by simpa using c5))
      clear c5
      by_cases c6 : t154 = 2
      · rw [if_pos c6] at H
        have c6b0 : (t154 == 2) = true := beq_iff_eq.mpr c6
        have c6b1 : (t154 != 2) = false := bne_eq_false_iff_eq.mpr c6
        clear c6
        replace H := Option.bind_eq_some_iff.mp H
        obtain ⟨⟨t161, t162, t163⟩, A70, H⟩ := H
        replace H : ((value_Text.f k t161 t162 t163).bind fun t164 => (some (t164.toList == ([35, 78, 47, 65] : List UInt8)))) = some r := H
        have A7 := Aside0.mk A70
        clear A70
        replace H := Option.bind_eq_some_iff.mp H
        obtain ⟨t164, A80, H⟩ := H
        replace H : (some (t164.toList == ([35, 78, 47, 65] : List UInt8))) = some r := H
        have A8 := Aside0.mk A80
        clear A80
        obtain rfl := Option.some.inj H
        go_enter Tryd.func10, Tryd.ntmps10
        go_wp2_with (first | ((with_reducible refine gate_callee (f := 11) rfl ?_); refine goesL_ (some 5) rfl rfl Tryd.func11 (by kernel_rfl) rfl #[.agg #[.int .i64 2, .int .i64 0, .string (⟨#[120]⟩ : ByteArray)]] rfl (by (try simp only [List.map_toArray, List.map_cons, List.map_nil]); first | done | rfl | (simp only [List.length_drop, List.length_take]; rfl)) ?_; (with_reducible refine (value_ToNum.calls k 2 0 (⟨#[120]⟩ : ByteArray) t153 t154 _ A1.out).mono ?_); rintro e w9 ⟨rfl, hb⟩; refine ⟨_, rfl, ?_⟩; have n0_ := Aside0.mk (below_step (by repeat (first | (with_reducible first | exact HB.out | apply below_alloc | apply pw_below_drewN | apply below_drew1) | exact HB.out)) hb); clear HB; have HB := n0_; clear n0_; (try clear hb); (try clear hb2); (try clear hk); (try clear hi)) | ((with_reducible refine gate_callee (f := 23) rfl ?_); refine goesL_ (some 8) rfl rfl Tryd.func23 (by kernel_rfl) rfl #[.string (⟨#[49, 46, 53]⟩ : ByteArray)] rfl (by (try simp only [List.map_toArray, List.map_cons, List.map_nil]); first | done | rfl | (simp only [List.length_drop, List.length_take]; rfl)) ?_; (with_reducible refine (value_Typed.calls k (⟨#[49, 46, 53]⟩ : ByteArray) t155 t156 t157 _ A2.out).mono ?_); rintro e w10 ⟨rfl, hb⟩; refine ⟨_, rfl, ?_⟩; have n0_ := Aside0.mk (below_step (by repeat (first | (with_reducible first | exact HB.out | apply below_alloc | apply pw_below_drewN | apply below_drew1) | exact HB.out)) hb); clear HB; have HB := n0_; clear n0_; (try clear hb); (try clear hb2); (try clear hk); (try clear hi)) | (go_at_call 23; (with_reducible refine (value_Typed.calls k (⟨#[39, 49]⟩ : ByteArray) t158 t159 t160 _ A4.out).mono ?_); rintro e w11 ⟨rfl, hb⟩; have n0_ := Aside0.mk (below_step (by repeat (first | (with_reducible first | exact HB.out | apply below_alloc | apply pw_below_drewN | apply below_drew1) | exact HB.out)) hb); clear HB; have HB := n0_; clear n0_; (try clear hb); (try clear hb2); (try clear hk); (try clear hi)) | (go_at_call 33; (with_reducible refine (value_Bad.calls 6 t161 t162 t163 _ A7.out).mono ?_); rintro e w12 ⟨rfl, hb⟩; have n0_ := Aside0.mk (below_step (by repeat (first | (with_reducible first | exact HB.out | apply below_alloc | apply pw_below_drewN | apply below_drew1) | exact HB.out)) hb); clear HB; have HB := n0_; clear n0_; (try clear hb); (try clear hb2); (try clear hk); (try clear hi)) | (go_at_call 21; (with_reducible refine (value_Text.calls k t161 t162 t163 t164 _ A8.out).mono ?_); rintro e w13 ⟨rfl, hb⟩; have n0_ := Aside0.mk (below_step (by repeat (first | (with_reducible first | exact HB.out | apply below_alloc | apply pw_below_drewN | apply below_drew1) | exact HB.out)) hb); clear HB; have HB := n0_; clear n0_; (try clear hb); (try clear hb2); (try clear hk); (try clear hi)))
        go_ret
        exact ⟨by first | rfl | (simp [errW_none, errW_some] <;> rfl) | (simp [*, errW_none, errW_some] <;> rfl), by repeat (first | (with_reducible first | exact HB.out | apply below_alloc | apply pw_below_drewN | apply below_drew1) | exact HB.out)⟩
      · rw [if_neg c6] at H
        exact absurd H (by simp)
    · rw [if_neg c5] at H
      exact absurd H (by simp)
  · rw [if_neg c3] at H
    exact absurd H (by simp)

/-! ### value_Good: function 20 -/
def value_Good.f (a0_0 : Int) (a0_1 : Int) (a0_2 : ByteArray) : Option (Bool) := if a0_0 = 0 then (if a0_2.toList = ([] : List UInt8) then (if a0_1 = 0 then (some true) else (some false)) else (some false)) else (if a0_0 = 1 then (if a0_2.toList = ([] : List UInt8) then ((num_Good.f a0_1).bind fun t => (some t)) else (some false)) else (if a0_0 = 2 then (if a0_1 = 0 then (if (a0_2.size : Int) ≤ 255 then (some true) else (some false)) else (some false)) else (if a0_0 = 3 then (if a0_2.toList = ([] : List UInt8) then (if a0_1 = 0 then (some true) else (if a0_1 = 1 then (some true) else (some false))) else (some false)) else (if a0_0 = 4 then (if a0_2.toList = ([] : List UInt8) then (if 1 ≤ a0_1 then (if a0_1 ≤ 8 then (some true) else (some false)) else (some false)) else (some false)) else (if a0_2.toList = ([] : List UInt8) then (some false) else (some false))))))
set_option maxHeartbeats 8000000 in
set_option maxRecDepth 100000 in
theorem value_Good.calls (a0_0 : Int) (a0_1 : Int) (a0_2 : ByteArray) (r : Bool) (w : World) (h : value_Good.f a0_0 a0_1 a0_2 = some r) :
    Calls Tryd.prog 20 #[.agg #[.int .i64 a0_0, .int .i64 a0_1, .string a0_2]] w fun e w' => e = .returned (.bool r) ∧ Below w.heap.size w w' := by
  unfold value_Good.f at h
  have hu := Tryd.underlying23
  have hub := Tryd.underlying48
  by_cases c0 : a0_0 = 0
  · subst c0
    rw [if_pos rfl] at h
    by_cases d1 : a0_2.toList = ([] : List UInt8)
    · rw [if_pos d1] at h
      have d1b0 : (a0_2.toList == ([] : List UInt8)) = true := beq_iff_eq.mpr d1
      have d1b1 : (a0_2.toList != ([] : List UInt8)) = false := bne_eq_false_iff_eq.mpr d1
      clear d1
      by_cases d2 : a0_1 = 0
      · rw [if_pos d2] at h
        have d2b0 : (a0_1 == 0) = true := beq_iff_eq.mpr d2
        have d2b1 : (a0_1 != 0) = false := bne_eq_false_iff_eq.mpr d2
        clear d2
        obtain rfl := Option.some.inj h
        obtain ⟨ta0, ta1, ta2, ta3, ta4⟩ := value_own.ta0
        go_enter Tryd.func20, Tryd.ntmps20
        go_wp2_with (first | (go_at_call 38; refine (value_own.k0 _ _ _).mono ?_; rintro e w1 ⟨rfl, hb⟩; obtain ⟨hc, hb1, hz⟩ := value_own.kept hb; clear hb; have hc0 := hc 0; have hc1 := hc 1; have hc2 := hc 2; clear hc; simp only [List.getElem?_toArray, List.getElem?_cons_zero, List.getElem?_cons_succ] at hc0 hc1 hc2))
        go_ret
        exact ⟨rfl, by repeat (first | exact hb1 | exact hb1.trans (hq.mono hb1.size) | exact (Below.refl _ _).alloc (Nat.le_refl _) _ | refine Below.alloc ?_ (by first | exact hb1.size | exact (hb1.trans (hq.mono hb1.size)).size) _)⟩
      · rw [if_neg d2] at h
        have d2b0 : (a0_1 == 0) = false := beq_eq_false_iff_ne.mpr d2
        have d2b1 : (a0_1 != 0) = true := bne_iff_ne.mpr d2
        clear d2
        obtain rfl := Option.some.inj h
        obtain ⟨ta0, ta1, ta2, ta3, ta4⟩ := value_own.ta0
        go_enter Tryd.func20, Tryd.ntmps20
        go_wp2_with (first | (go_at_call 38; refine (value_own.k0 _ _ _).mono ?_; rintro e w1 ⟨rfl, hb⟩; obtain ⟨hc, hb1, hz⟩ := value_own.kept hb; clear hb; have hc0 := hc 0; have hc1 := hc 1; have hc2 := hc 2; clear hc; simp only [List.getElem?_toArray, List.getElem?_cons_zero, List.getElem?_cons_succ] at hc0 hc1 hc2))
        go_ret
        exact ⟨rfl, by repeat (first | exact hb1 | exact hb1.trans (hq.mono hb1.size) | exact (Below.refl _ _).alloc (Nat.le_refl _) _ | refine Below.alloc ?_ (by first | exact hb1.size | exact (hb1.trans (hq.mono hb1.size)).size) _)⟩
    · rw [if_neg d1] at h
      have d1b0 : (a0_2.toList == ([] : List UInt8)) = false := beq_eq_false_iff_ne.mpr d1
      have d1b1 : (a0_2.toList != ([] : List UInt8)) = true := bne_iff_ne.mpr d1
      clear d1
      obtain rfl := Option.some.inj h
      obtain ⟨ta0, ta1, ta2, ta3, ta4⟩ := value_own.ta0
      go_enter Tryd.func20, Tryd.ntmps20
      go_wp2_with (first | (go_at_call 38; refine (value_own.k0 _ _ _).mono ?_; rintro e w1 ⟨rfl, hb⟩; obtain ⟨hc, hb1, hz⟩ := value_own.kept hb; clear hb; have hc0 := hc 0; have hc1 := hc 1; have hc2 := hc 2; clear hc; simp only [List.getElem?_toArray, List.getElem?_cons_zero, List.getElem?_cons_succ] at hc0 hc1 hc2))
      go_ret
      exact ⟨rfl, by repeat (first | exact hb1 | exact hb1.trans (hq.mono hb1.size) | exact (Below.refl _ _).alloc (Nat.le_refl _) _ | refine Below.alloc ?_ (by first | exact hb1.size | exact (hb1.trans (hq.mono hb1.size)).size) _)⟩
  rw [if_neg c0] at h
  by_cases c1 : a0_0 = 1
  · subst c1
    rw [if_pos rfl] at h
    by_cases d3 : a0_2.toList = ([] : List UInt8)
    · rw [if_pos d3] at h
      have d3b0 : (a0_2.toList == ([] : List UInt8)) = true := beq_iff_eq.mpr d3
      have d3b1 : (a0_2.toList != ([] : List UInt8)) = false := bne_eq_false_iff_eq.mpr d3
      clear d3
      obtain ⟨t, hp4, h⟩ := Option.bind_eq_some_iff.mp h
      have Hhp4 := Aside0.mk hp4
      clear hp4
      obtain rfl := Option.some.inj h
      obtain ⟨ta0, ta1, ta2, ta3, ta4⟩ := value_own.ta1
      go_enter Tryd.func20, Tryd.ntmps20
      go_wp2_with (first | (go_at_call 38; refine (value_own.k1 _ _ _).mono ?_; rintro e w1 ⟨rfl, hb⟩; obtain ⟨hc, hb1, hz⟩ := value_own.kept hb; clear hb; have hc0 := hc 0; have hc1 := hc 1; have hc2 := hc 2; clear hc; simp only [List.getElem?_toArray, List.getElem?_cons_zero, List.getElem?_cons_succ] at hc0 hc1 hc2) | (go_at_call 48; refine (num_Good.calls _  _ _ Hhp4.out).mono ?_; rintro e w2 ⟨rfl, hq'⟩; have hq := hq'.below; clear hq'))
      go_ret
      exact ⟨rfl, by repeat (first | exact hb1 | exact hb1.trans (hq.mono hb1.size) | exact (Below.refl _ _).alloc (Nat.le_refl _) _ | refine Below.alloc ?_ (by first | exact hb1.size | exact (hb1.trans (hq.mono hb1.size)).size) _)⟩
    · rw [if_neg d3] at h
      have d3b0 : (a0_2.toList == ([] : List UInt8)) = false := beq_eq_false_iff_ne.mpr d3
      have d3b1 : (a0_2.toList != ([] : List UInt8)) = true := bne_iff_ne.mpr d3
      clear d3
      obtain rfl := Option.some.inj h
      obtain ⟨ta0, ta1, ta2, ta3, ta4⟩ := value_own.ta1
      go_enter Tryd.func20, Tryd.ntmps20
      go_wp2_with (first | (go_at_call 38; refine (value_own.k1 _ _ _).mono ?_; rintro e w1 ⟨rfl, hb⟩; obtain ⟨hc, hb1, hz⟩ := value_own.kept hb; clear hb; have hc0 := hc 0; have hc1 := hc 1; have hc2 := hc 2; clear hc; simp only [List.getElem?_toArray, List.getElem?_cons_zero, List.getElem?_cons_succ] at hc0 hc1 hc2))
      go_ret
      exact ⟨rfl, by repeat (first | exact hb1 | exact hb1.trans (hq.mono hb1.size) | exact (Below.refl _ _).alloc (Nat.le_refl _) _ | refine Below.alloc ?_ (by first | exact hb1.size | exact (hb1.trans (hq.mono hb1.size)).size) _)⟩
  rw [if_neg c1] at h
  by_cases c2 : a0_0 = 2
  · subst c2
    rw [if_pos rfl] at h
    by_cases d5 : a0_1 = 0
    · rw [if_pos d5] at h
      have d5b0 : (a0_1 == 0) = true := beq_iff_eq.mpr d5
      have d5b1 : (a0_1 != 0) = false := bne_eq_false_iff_eq.mpr d5
      clear d5
      by_cases d6 : (a0_2.size : Int) ≤ 255
      · rw [if_pos d6] at h
        have d6b0 : decide ((a0_2.size : Int) ≤ 255) = true := decide_eq_true d6
        have d6b1 : decide (a0_2.size ≤ 255) = true := decide_eq_true (by omega)
        clear d6
        obtain rfl := Option.some.inj h
        obtain ⟨ta0, ta1, ta2, ta3, ta4⟩ := value_own.ta2
        go_enter Tryd.func20, Tryd.ntmps20
        go_wp2_with (first | (go_at_call 38; refine (value_own.k2 _ _ _).mono ?_; rintro e w1 ⟨rfl, hb⟩; obtain ⟨hc, hb1, hz⟩ := value_own.kept hb; clear hb; have hc0 := hc 0; have hc1 := hc 1; have hc2 := hc 2; clear hc; simp only [List.getElem?_toArray, List.getElem?_cons_zero, List.getElem?_cons_succ] at hc0 hc1 hc2))
        go_ret
        exact ⟨rfl, by repeat (first | exact hb1 | exact hb1.trans (hq.mono hb1.size) | exact (Below.refl _ _).alloc (Nat.le_refl _) _ | refine Below.alloc ?_ (by first | exact hb1.size | exact (hb1.trans (hq.mono hb1.size)).size) _)⟩
      · rw [if_neg d6] at h
        have d6b0 : decide ((a0_2.size : Int) ≤ 255) = false := decide_eq_false d6
        have d6b1 : decide (a0_2.size ≤ 255) = false := decide_eq_false (by omega)
        clear d6
        obtain rfl := Option.some.inj h
        obtain ⟨ta0, ta1, ta2, ta3, ta4⟩ := value_own.ta2
        go_enter Tryd.func20, Tryd.ntmps20
        go_wp2_with (first | (go_at_call 38; refine (value_own.k2 _ _ _).mono ?_; rintro e w1 ⟨rfl, hb⟩; obtain ⟨hc, hb1, hz⟩ := value_own.kept hb; clear hb; have hc0 := hc 0; have hc1 := hc 1; have hc2 := hc 2; clear hc; simp only [List.getElem?_toArray, List.getElem?_cons_zero, List.getElem?_cons_succ] at hc0 hc1 hc2))
        go_ret
        exact ⟨rfl, by repeat (first | exact hb1 | exact hb1.trans (hq.mono hb1.size) | exact (Below.refl _ _).alloc (Nat.le_refl _) _ | refine Below.alloc ?_ (by first | exact hb1.size | exact (hb1.trans (hq.mono hb1.size)).size) _)⟩
    · rw [if_neg d5] at h
      have d5b0 : (a0_1 == 0) = false := beq_eq_false_iff_ne.mpr d5
      have d5b1 : (a0_1 != 0) = true := bne_iff_ne.mpr d5
      clear d5
      obtain rfl := Option.some.inj h
      obtain ⟨ta0, ta1, ta2, ta3, ta4⟩ := value_own.ta2
      go_enter Tryd.func20, Tryd.ntmps20
      go_wp2_with (first | (go_at_call 38; refine (value_own.k2 _ _ _).mono ?_; rintro e w1 ⟨rfl, hb⟩; obtain ⟨hc, hb1, hz⟩ := value_own.kept hb; clear hb; have hc0 := hc 0; have hc1 := hc 1; have hc2 := hc 2; clear hc; simp only [List.getElem?_toArray, List.getElem?_cons_zero, List.getElem?_cons_succ] at hc0 hc1 hc2))
      go_ret
      exact ⟨rfl, by repeat (first | exact hb1 | exact hb1.trans (hq.mono hb1.size) | exact (Below.refl _ _).alloc (Nat.le_refl _) _ | refine Below.alloc ?_ (by first | exact hb1.size | exact (hb1.trans (hq.mono hb1.size)).size) _)⟩
  rw [if_neg c2] at h
  by_cases c3 : a0_0 = 3
  · subst c3
    rw [if_pos rfl] at h
    by_cases d7 : a0_2.toList = ([] : List UInt8)
    · rw [if_pos d7] at h
      have d7b0 : (a0_2.toList == ([] : List UInt8)) = true := beq_iff_eq.mpr d7
      have d7b1 : (a0_2.toList != ([] : List UInt8)) = false := bne_eq_false_iff_eq.mpr d7
      clear d7
      by_cases d8 : a0_1 = 0
      · rw [if_pos d8] at h
        have d8b0 : (a0_1 == 0) = true := beq_iff_eq.mpr d8
        have d8b1 : (a0_1 != 0) = false := bne_eq_false_iff_eq.mpr d8
        clear d8
        obtain rfl := Option.some.inj h
        obtain ⟨ta0, ta1, ta2, ta3, ta4⟩ := value_own.ta3
        go_enter Tryd.func20, Tryd.ntmps20
        go_wp2_with (first | (go_at_call 38; refine (value_own.k3 _ _ _).mono ?_; rintro e w1 ⟨rfl, hb⟩; obtain ⟨hc, hb1, hz⟩ := value_own.kept hb; clear hb; have hc0 := hc 0; have hc1 := hc 1; have hc2 := hc 2; clear hc; simp only [List.getElem?_toArray, List.getElem?_cons_zero, List.getElem?_cons_succ] at hc0 hc1 hc2))
        go_ret
        exact ⟨rfl, by repeat (first | exact hb1 | exact hb1.trans (hq.mono hb1.size) | exact (Below.refl _ _).alloc (Nat.le_refl _) _ | refine Below.alloc ?_ (by first | exact hb1.size | exact (hb1.trans (hq.mono hb1.size)).size) _)⟩
      · rw [if_neg d8] at h
        have d8b0 : (a0_1 == 0) = false := beq_eq_false_iff_ne.mpr d8
        have d8b1 : (a0_1 != 0) = true := bne_iff_ne.mpr d8
        clear d8
        by_cases d9 : a0_1 = 1
        · rw [if_pos d9] at h
          have d9b0 : (a0_1 == 1) = true := beq_iff_eq.mpr d9
          have d9b1 : (a0_1 != 1) = false := bne_eq_false_iff_eq.mpr d9
          clear d9
          obtain rfl := Option.some.inj h
          obtain ⟨ta0, ta1, ta2, ta3, ta4⟩ := value_own.ta3
          go_enter Tryd.func20, Tryd.ntmps20
          go_wp2_with (first | (go_at_call 38; refine (value_own.k3 _ _ _).mono ?_; rintro e w1 ⟨rfl, hb⟩; obtain ⟨hc, hb1, hz⟩ := value_own.kept hb; clear hb; have hc0 := hc 0; have hc1 := hc 1; have hc2 := hc 2; clear hc; simp only [List.getElem?_toArray, List.getElem?_cons_zero, List.getElem?_cons_succ] at hc0 hc1 hc2))
          go_ret
          exact ⟨rfl, by repeat (first | exact hb1 | exact hb1.trans (hq.mono hb1.size) | exact (Below.refl _ _).alloc (Nat.le_refl _) _ | refine Below.alloc ?_ (by first | exact hb1.size | exact (hb1.trans (hq.mono hb1.size)).size) _)⟩
        · rw [if_neg d9] at h
          have d9b0 : (a0_1 == 1) = false := beq_eq_false_iff_ne.mpr d9
          have d9b1 : (a0_1 != 1) = true := bne_iff_ne.mpr d9
          clear d9
          obtain rfl := Option.some.inj h
          obtain ⟨ta0, ta1, ta2, ta3, ta4⟩ := value_own.ta3
          go_enter Tryd.func20, Tryd.ntmps20
          go_wp2_with (first | (go_at_call 38; refine (value_own.k3 _ _ _).mono ?_; rintro e w1 ⟨rfl, hb⟩; obtain ⟨hc, hb1, hz⟩ := value_own.kept hb; clear hb; have hc0 := hc 0; have hc1 := hc 1; have hc2 := hc 2; clear hc; simp only [List.getElem?_toArray, List.getElem?_cons_zero, List.getElem?_cons_succ] at hc0 hc1 hc2))
          go_ret
          exact ⟨rfl, by repeat (first | exact hb1 | exact hb1.trans (hq.mono hb1.size) | exact (Below.refl _ _).alloc (Nat.le_refl _) _ | refine Below.alloc ?_ (by first | exact hb1.size | exact (hb1.trans (hq.mono hb1.size)).size) _)⟩
    · rw [if_neg d7] at h
      have d7b0 : (a0_2.toList == ([] : List UInt8)) = false := beq_eq_false_iff_ne.mpr d7
      have d7b1 : (a0_2.toList != ([] : List UInt8)) = true := bne_iff_ne.mpr d7
      clear d7
      obtain rfl := Option.some.inj h
      obtain ⟨ta0, ta1, ta2, ta3, ta4⟩ := value_own.ta3
      go_enter Tryd.func20, Tryd.ntmps20
      go_wp2_with (first | (go_at_call 38; refine (value_own.k3 _ _ _).mono ?_; rintro e w1 ⟨rfl, hb⟩; obtain ⟨hc, hb1, hz⟩ := value_own.kept hb; clear hb; have hc0 := hc 0; have hc1 := hc 1; have hc2 := hc 2; clear hc; simp only [List.getElem?_toArray, List.getElem?_cons_zero, List.getElem?_cons_succ] at hc0 hc1 hc2))
      go_ret
      exact ⟨rfl, by repeat (first | exact hb1 | exact hb1.trans (hq.mono hb1.size) | exact (Below.refl _ _).alloc (Nat.le_refl _) _ | refine Below.alloc ?_ (by first | exact hb1.size | exact (hb1.trans (hq.mono hb1.size)).size) _)⟩
  rw [if_neg c3] at h
  by_cases c4 : a0_0 = 4
  · subst c4
    rw [if_pos rfl] at h
    by_cases d10 : a0_2.toList = ([] : List UInt8)
    · rw [if_pos d10] at h
      have d10b0 : (a0_2.toList == ([] : List UInt8)) = true := beq_iff_eq.mpr d10
      have d10b1 : (a0_2.toList != ([] : List UInt8)) = false := bne_eq_false_iff_eq.mpr d10
      clear d10
      by_cases d11 : 1 ≤ a0_1
      · rw [if_pos d11] at h
        have d11b0 : decide (1 ≤ a0_1) = true := decide_eq_true d11
        clear d11
        by_cases d12 : a0_1 ≤ 8
        · rw [if_pos d12] at h
          have d12b0 : decide (a0_1 ≤ 8) = true := decide_eq_true d12
          clear d12
          obtain rfl := Option.some.inj h
          obtain ⟨ta0, ta1, ta2, ta3, ta4⟩ := value_own.ta4
          go_enter Tryd.func20, Tryd.ntmps20
          go_wp2_with (first | (go_at_call 38; refine (value_own.k4 _ _ _).mono ?_; rintro e w1 ⟨rfl, hb⟩; obtain ⟨hc, hb1, hz⟩ := value_own.kept hb; clear hb; have hc0 := hc 0; have hc1 := hc 1; have hc2 := hc 2; clear hc; simp only [List.getElem?_toArray, List.getElem?_cons_zero, List.getElem?_cons_succ] at hc0 hc1 hc2))
          go_ret
          exact ⟨rfl, by repeat (first | exact hb1 | exact hb1.trans (hq.mono hb1.size) | exact (Below.refl _ _).alloc (Nat.le_refl _) _ | refine Below.alloc ?_ (by first | exact hb1.size | exact (hb1.trans (hq.mono hb1.size)).size) _)⟩
        · rw [if_neg d12] at h
          have d12b0 : decide (a0_1 ≤ 8) = false := decide_eq_false d12
          clear d12
          obtain rfl := Option.some.inj h
          obtain ⟨ta0, ta1, ta2, ta3, ta4⟩ := value_own.ta4
          go_enter Tryd.func20, Tryd.ntmps20
          go_wp2_with (first | (go_at_call 38; refine (value_own.k4 _ _ _).mono ?_; rintro e w1 ⟨rfl, hb⟩; obtain ⟨hc, hb1, hz⟩ := value_own.kept hb; clear hb; have hc0 := hc 0; have hc1 := hc 1; have hc2 := hc 2; clear hc; simp only [List.getElem?_toArray, List.getElem?_cons_zero, List.getElem?_cons_succ] at hc0 hc1 hc2))
          go_ret
          exact ⟨rfl, by repeat (first | exact hb1 | exact hb1.trans (hq.mono hb1.size) | exact (Below.refl _ _).alloc (Nat.le_refl _) _ | refine Below.alloc ?_ (by first | exact hb1.size | exact (hb1.trans (hq.mono hb1.size)).size) _)⟩
      · rw [if_neg d11] at h
        have d11b0 : decide (1 ≤ a0_1) = false := decide_eq_false d11
        clear d11
        obtain rfl := Option.some.inj h
        obtain ⟨ta0, ta1, ta2, ta3, ta4⟩ := value_own.ta4
        go_enter Tryd.func20, Tryd.ntmps20
        go_wp2_with (first | (go_at_call 38; refine (value_own.k4 _ _ _).mono ?_; rintro e w1 ⟨rfl, hb⟩; obtain ⟨hc, hb1, hz⟩ := value_own.kept hb; clear hb; have hc0 := hc 0; have hc1 := hc 1; have hc2 := hc 2; clear hc; simp only [List.getElem?_toArray, List.getElem?_cons_zero, List.getElem?_cons_succ] at hc0 hc1 hc2))
        go_ret
        exact ⟨rfl, by repeat (first | exact hb1 | exact hb1.trans (hq.mono hb1.size) | exact (Below.refl _ _).alloc (Nat.le_refl _) _ | refine Below.alloc ?_ (by first | exact hb1.size | exact (hb1.trans (hq.mono hb1.size)).size) _)⟩
    · rw [if_neg d10] at h
      have d10b0 : (a0_2.toList == ([] : List UInt8)) = false := beq_eq_false_iff_ne.mpr d10
      have d10b1 : (a0_2.toList != ([] : List UInt8)) = true := bne_iff_ne.mpr d10
      clear d10
      obtain rfl := Option.some.inj h
      obtain ⟨ta0, ta1, ta2, ta3, ta4⟩ := value_own.ta4
      go_enter Tryd.func20, Tryd.ntmps20
      go_wp2_with (first | (go_at_call 38; refine (value_own.k4 _ _ _).mono ?_; rintro e w1 ⟨rfl, hb⟩; obtain ⟨hc, hb1, hz⟩ := value_own.kept hb; clear hb; have hc0 := hc 0; have hc1 := hc 1; have hc2 := hc 2; clear hc; simp only [List.getElem?_toArray, List.getElem?_cons_zero, List.getElem?_cons_succ] at hc0 hc1 hc2))
      go_ret
      exact ⟨rfl, by repeat (first | exact hb1 | exact hb1.trans (hq.mono hb1.size) | exact (Below.refl _ _).alloc (Nat.le_refl _) _ | refine Below.alloc ?_ (by first | exact hb1.size | exact (hb1.trans (hq.mono hb1.size)).size) _)⟩
  rw [if_neg c4] at h
  have HX := fun w => value_own.kx a0_0 a0_1 a0_2 (beq_eq_false_iff_ne.mpr c0) (beq_eq_false_iff_ne.mpr c1) (beq_eq_false_iff_ne.mpr c2) (beq_eq_false_iff_ne.mpr c3) (beq_eq_false_iff_ne.mpr c4) w
  have n2 : (a0_0 != 2) = true := bne_iff_ne.mpr c2
  clear c0 c1 c2 c3 c4
  by_cases d13 : a0_2.toList = ([] : List UInt8)
  · rw [if_pos d13] at h
    have d13b0 : (a0_2.toList == ([] : List UInt8)) = true := beq_iff_eq.mpr d13
    have d13b1 : (a0_2.toList != ([] : List UInt8)) = false := bne_eq_false_iff_eq.mpr d13
    clear d13
    obtain rfl := Option.some.inj h
    obtain ⟨ta0, ta1, ta2, ta3, ta4⟩ := value_own.tax
    go_enter Tryd.func20, Tryd.ntmps20
    go_wp2_with (first | (go_at_call 38; refine (HX _).mono ?_; rintro e w1 ⟨rfl, hb⟩; obtain ⟨hc, hb1, hz⟩ := value_own.kept hb; clear hb; have hc0 := hc 0; have hc1 := hc 1; have hc2 := hc 2; clear hc; simp only [List.getElem?_toArray, List.getElem?_cons_zero, List.getElem?_cons_succ] at hc0 hc1 hc2))
    go_ret
    exact ⟨rfl, by repeat (first | exact hb1 | exact hb1.trans (hq.mono hb1.size) | exact (Below.refl _ _).alloc (Nat.le_refl _) _ | refine Below.alloc ?_ (by first | exact hb1.size | exact (hb1.trans (hq.mono hb1.size)).size) _)⟩
  · rw [if_neg d13] at h
    have d13b0 : (a0_2.toList == ([] : List UInt8)) = false := beq_eq_false_iff_ne.mpr d13
    have d13b1 : (a0_2.toList != ([] : List UInt8)) = true := bne_iff_ne.mpr d13
    clear d13
    obtain rfl := Option.some.inj h
    obtain ⟨ta0, ta1, ta2, ta3, ta4⟩ := value_own.tax
    go_enter Tryd.func20, Tryd.ntmps20
    go_wp2_with (first | (go_at_call 38; refine (HX _).mono ?_; rintro e w1 ⟨rfl, hb⟩; obtain ⟨hc, hb1, hz⟩ := value_own.kept hb; clear hb; have hc0 := hc 0; have hc1 := hc 1; have hc2 := hc 2; clear hc; simp only [List.getElem?_toArray, List.getElem?_cons_zero, List.getElem?_cons_succ] at hc0 hc1 hc2))
    go_ret
    exact ⟨rfl, by repeat (first | exact hb1 | exact hb1.trans (hq.mono hb1.size) | exact (Below.refl _ _).alloc (Nat.le_refl _) _ | refine Below.alloc ?_ (by first | exact hb1.size | exact (hb1.trans (hq.mono hb1.size)).size) _)⟩
/-! ### utf8_RuneLen: function 55 -/
def utf8_RuneLen.j0 : Nat → Int → Bool → Option (Int)
  | 0, _, _ => none
  | k + 1, x0, x12 => if x12 = true then (some (-1)) else (if x0 ≤ 65535 then (some 3) else (if x0 ≤ 1114111 then (some 4) else (some (-1))))
def utf8_RuneLen.f (k : Nat) (a0 : Int) : Option (Int) := if a0 < 0 then (some (-1)) else (if a0 ≤ 127 then (some 1) else (if a0 ≤ 2047 then (some 2) else (if 55296 ≤ a0 then (utf8_RuneLen.j0 k a0 (decide (a0 ≤ 57343))) else (utf8_RuneLen.j0 k a0 false))))
theorem utf8_RuneLen.mono_l : ∀ k, (∀ y0 y1, LeO (utf8_RuneLen.j0 k y0 y1) (utf8_RuneLen.j0 (k + 1) y0 y1))
  | 0 => fun _ _ r h => by simp [utf8_RuneLen.j0] at h
  | k + 1 => by
    have ih0 := utf8_RuneLen.mono_l k
    · intro y0 y1
      unfold utf8_RuneLen.j0
      repeat' first
      | (with_reducible exact ih0 _ _)
      | (with_reducible exact LeO.refl _)
      | (with_reducible exact LeO.none _)
      | (with_reducible refine LeO.ite ?_ ?_)
      | (with_reducible refine LeO.bind ?_ (fun _ => ?_))
      | exact ih0 _ _
      | exact LeO.none _
      | refine LeO.ite ?_ ?_
      | refine LeO.bind ?_ (fun _ => ?_)
theorem utf8_RuneLen.mono : ∀ a0 k, LeO (utf8_RuneLen.f k a0) (utf8_RuneLen.f (k + 1) a0) := by
  intro a0 k
  have ih0 := utf8_RuneLen.mono_l k
  unfold utf8_RuneLen.f
  repeat' first
      | (with_reducible exact ih0 _ _)
      | (with_reducible exact LeO.refl _)
      | (with_reducible exact LeO.none _)
      | (with_reducible refine LeO.ite ?_ ?_)
      | (with_reducible refine LeO.bind ?_ (fun _ => ?_))
      | exact ih0 _ _
      | exact LeO.none _
      | refine LeO.ite ?_ ?_
      | refine LeO.bind ?_ (fun _ => ?_)
set_option maxHeartbeats 8000000 in
set_option maxRecDepth 100000 in
theorem utf8_RuneLen.calls (k : Nat) (a0 : Int) (r : Int) (w : World) (h : utf8_RuneLen.f k a0 = some r) :
    Calls Tryd.prog 55 #[.int .i32 a0] w fun e w' => e = .returned (.int .i64 r) ∧ Drawn0 w w' := by
  have H : (if a0 < 0 then (some (-1)) else (if a0 ≤ 127 then (some 1) else (if a0 ≤ 2047 then (some 2) else (if 55296 ≤ a0 then (utf8_RuneLen.j0 k a0 (decide (a0 ≤ 57343))) else (utf8_RuneLen.j0 k a0 false))))) = some r := h
  clear h
  by_cases c2 : a0 < 0
  · rw [if_pos c2] at H
    have c2b0 : decide (a0 < 0) = true := decide_eq_true c2
    clear c2
    obtain rfl := Option.some.inj H
    go_enter Tryd.func55, Tryd.ntmps55
    go_wp2
    go_ret
    exact ⟨by first | rfl | (simp; done) | (simp [*]; done), by repeat (first | exact Drawn0.refl _ | apply Drawn0.step)⟩
  · rw [if_neg c2] at H
    have c2b0 : decide (a0 < 0) = false := decide_eq_false c2
    clear c2
    by_cases c3 : a0 ≤ 127
    · rw [if_pos c3] at H
      have c3b0 : decide (a0 ≤ 127) = true := decide_eq_true c3
      clear c3
      obtain rfl := Option.some.inj H
      go_enter Tryd.func55, Tryd.ntmps55
      go_wp2
      go_ret
      exact ⟨by first | rfl | (simp; done) | (simp [*]; done), by repeat (first | exact Drawn0.refl _ | apply Drawn0.step)⟩
    · rw [if_neg c3] at H
      have c3b0 : decide (a0 ≤ 127) = false := decide_eq_false c3
      clear c3
      by_cases c4 : a0 ≤ 2047
      · rw [if_pos c4] at H
        have c4b0 : decide (a0 ≤ 2047) = true := decide_eq_true c4
        clear c4
        obtain rfl := Option.some.inj H
        go_enter Tryd.func55, Tryd.ntmps55
        go_wp2
        go_ret
        exact ⟨by first | rfl | (simp; done) | (simp [*]; done), by repeat (first | exact Drawn0.refl _ | apply Drawn0.step)⟩
      · rw [if_neg c4] at H
        have c4b0 : decide (a0 ≤ 2047) = false := decide_eq_false c4
        clear c4
        have HC5 := Aside0.mk H
        clear H
        go_enter Tryd.func55, Tryd.ntmps55
        go_upto_region 7 with (fail)
        go_cut [12] (fun v12 wc => ∃ (kq : Nat) (x12_4 : Bool), v12 = .bool x12_4 ∧ Aside0 (utf8_RuneLen.j0 kq a0 x12_4 = some r) ∧ Aside0 (kq ≤ k) ∧ Drawn0 w wc)
        case first =>
          have H := HC5.out
          clear HC5
          by_cases c6 : 55296 ≤ a0
          · rw [if_pos c6] at H
            have c6b0 : decide (55296 ≤ a0) = true := decide_eq_true c6
            clear c6
            (first | rw [c6b0] | (simp only [i64_w, i32_w]; rw [c6b0]) | skip)
            have H' := Aside0.mk H
            clear H
            go_wp2
            go_meet
            case rel => exact ⟨_, (decide (a0 ≤ 57343)), (by first | rfl | (simp; done) | (simp [*]; done)), H', ⟨by first | omega | exact Nat.le_refl _⟩, by repeat (first | exact Drawn0.refl _ | apply Drawn0.step)⟩
          · rw [if_neg c6] at H
            have c6b0 : decide (55296 ≤ a0) = false := decide_eq_false c6
            clear c6
            (first | rw [c6b0] | (simp only [i64_w, i32_w]; rw [c6b0]) | skip)
            have H' := Aside0.mk H
            clear H
            go_wp2
            go_meet
            case rel => exact ⟨_, (false), (by first | rfl | (simp; done) | (simp [*]; done)), H', ⟨by first | omega | exact Nat.le_refl _⟩, by repeat (first | exact Drawn0.refl _ | apply Drawn0.step)⟩
        case rest =>
          clear HC5
          try clear c2
          try clear c2b0
          try clear p2
          try clear c3
          try clear c3b0
          try clear c4
          try clear c4b0
          try clear c5
          try clear c6
          try clear c6b0
          obtain ⟨kq, x12_4, rfl, HA, HJ4, ⟨mc4, rfl⟩⟩ := hcut
          cases kq with
          | zero => exact absurd HA.out (by simp [utf8_RuneLen.j0])
          | succ kj4 =>
            have H := HA.out
            clear HA
            simp only [utf8_RuneLen.j0] at H
            by_cases c7 : x12_4 = true
            · subst c7
              have H1 : (some (-1)) = some r := by rw [if_pos rfl] at H; exact H
              clear H
              have H := H1
              clear H1
              obtain rfl := Option.some.inj H
              go_wp2
              go_ret
              exact ⟨by first | rfl | (simp; done) | (simp [*]; done), by repeat (first | exact Drawn0.refl _ | apply Drawn0.step)⟩
            · replace c7 := Bool.eq_false_iff.mpr c7
              subst c7
              have H1 : (if a0 ≤ 65535 then (some 3) else (if a0 ≤ 1114111 then (some 4) else (some (-1)))) = some r := by rw [if_neg (show ¬ (false = true) by decide)] at H; exact H
              clear H
              have H := H1
              clear H1
              by_cases c8 : a0 ≤ 65535
              · rw [if_pos c8] at H
                have c8b0 : decide (a0 ≤ 65535) = true := decide_eq_true c8
                clear c8
                obtain rfl := Option.some.inj H
                go_wp2
                go_ret
                exact ⟨by first | rfl | (simp; done) | (simp [*]; done), by repeat (first | exact Drawn0.refl _ | apply Drawn0.step)⟩
              · rw [if_neg c8] at H
                have c8b0 : decide (a0 ≤ 65535) = false := decide_eq_false c8
                clear c8
                by_cases c9 : a0 ≤ 1114111
                · rw [if_pos c9] at H
                  have c9b0 : decide (a0 ≤ 1114111) = true := decide_eq_true c9
                  clear c9
                  obtain rfl := Option.some.inj H
                  go_wp2
                  go_ret
                  exact ⟨by first | rfl | (simp; done) | (simp [*]; done), by repeat (first | exact Drawn0.refl _ | apply Drawn0.step)⟩
                · rw [if_neg c9] at H
                  have c9b0 : decide (a0 ≤ 1114111) = false := decide_eq_false c9
                  clear c9
                  obtain rfl := Option.some.inj H
                  go_wp2
                  go_ret
                  exact ⟨by first | rfl | (simp; done) | (simp [*]; done), by repeat (first | exact Drawn0.refl _ | apply Drawn0.step)⟩

/-! ### strings_HasPrefix: function 56 -/
def strings_HasPrefix.f (a0 : ByteArray) (a1 : ByteArray) : Option (Bool) := (stringslite_HasPrefix.f a0 a1).bind fun t165 => (some t165)
set_option maxHeartbeats 8000000 in
set_option maxRecDepth 100000 in
theorem strings_HasPrefix.calls (a0 : ByteArray) (a1 : ByteArray) (r : Bool) (w : World) (h : strings_HasPrefix.f a0 a1 = some r) :
    Calls Tryd.prog 56 #[.string a0, .string a1] w fun e w' => e = .returned (.bool r) ∧ Drawn0 w w' := by
  have H : ((stringslite_HasPrefix.f a0 a1).bind fun t165 => (some t165)) = some r := h
  clear h
  replace H := Option.bind_eq_some_iff.mp H
  obtain ⟨t165, A30, H⟩ := H
  replace H : (some t165) = some r := H
  have A3 := Aside0.mk A30
  clear A30
  obtain rfl := Option.some.inj H
  go_enter Tryd.func56, Tryd.ntmps56
  go_wp2_with (first | ((with_reducible refine gate_callee (f := 71) rfl ?_); refine goesL_ (some 7) rfl rfl Tryd.func71 (by kernel_rfl) rfl #[.string a0, .string a1] rfl (by (try simp only [List.map_toArray, List.map_cons, List.map_nil]); first | done | rfl | (simp only [List.length_drop, List.length_take]; rfl)) ?_; (with_reducible refine (stringslite_HasPrefix.calls a0 a1 t165 _ A3.out).mono ?_); rintro e w' ⟨rfl, ⟨nd, rfl⟩⟩; refine ⟨_, rfl, ?_⟩))
  go_ret
  exact ⟨by first | rfl | (simp; done) | (simp [*]; done), by repeat (first | exact Drawn0.refl _ | apply Drawn0.step)⟩

end Go.Proofs.YtdbahgjfbleocaaDoor.P
