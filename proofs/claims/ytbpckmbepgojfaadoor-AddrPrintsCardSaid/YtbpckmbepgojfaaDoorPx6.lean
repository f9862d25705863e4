-- Written by a program of this session (wip/tools/xprint.py), out of the seat's translation. Not trusted: Lean checks it.
import Derived.Test.YtbpckmbepgojfaaDoorPx0
import Derived.Test.YtbpckmbepgojfaaDoorPx5
namespace Go.Proofs.YtbpckmbepgojfaaDoor.P
open Go.RowKit Go.Proofs.YtbpckmbepgojfaaDoorW.PrintWords Go.Proofs.YtbpckmbepgojfaaDoorW.PrintLast Go.Proofs.YtbpckmbepgojfaaDoorW.PrintMore
attribute [local go_sem] max2_int min2_int max_two min_two max_three min_three max_four min_four X.binOp_str_gtr X.binOp_str_leq   -- for this text's walks alone
set_option linter.unusedVariables false
set_option linter.unusedSimpArgs false

/-! ### addr_cell: function 42 -/
def addr_cell.f (k : Nat) (a0_0 : ByteArray) (a0_1 : ByteArray) (a0_2 : Int) (a0_3 : Int) (a0_4 : Bool) (a0_5 : Bool) : Option (ByteArray) := if a0_5 = true then (if a0_4 = true then (if 1 + (Utf8.encode (wrap32 (wrap64 ((wrap64 (65 + a0_3)) - 1)))).size ≤ 9223372036854775807 then (if ((⟨#[36]⟩ : ByteArray) ++ (Utf8.encode (wrap32 (wrap64 ((wrap64 (65 + a0_3)) - 1))))).size + 1 ≤ 9223372036854775807 then ((addr_decimal.f k a0_2).bind fun t187 => (if (((⟨#[36]⟩ : ByteArray) ++ (Utf8.encode (wrap32 (wrap64 ((wrap64 (65 + a0_3)) - 1))))) ++ (⟨#[36]⟩ : ByteArray)).size + t187.size ≤ 9223372036854775807 then (some ((((⟨#[36]⟩ : ByteArray) ++ (Utf8.encode (wrap32 (wrap64 ((wrap64 (65 + a0_3)) - 1))))) ++ (⟨#[36]⟩ : ByteArray)) ++ t187)) else (none))) else (none)) else (none)) else (if 1 + (Utf8.encode (wrap32 (wrap64 ((wrap64 (65 + a0_3)) - 1)))).size ≤ 9223372036854775807 then (if ((⟨#[36]⟩ : ByteArray) ++ (Utf8.encode (wrap32 (wrap64 ((wrap64 (65 + a0_3)) - 1))))).size + 0 ≤ 9223372036854775807 then ((addr_decimal.f k a0_2).bind fun t188 => (if (((⟨#[36]⟩ : ByteArray) ++ (Utf8.encode (wrap32 (wrap64 ((wrap64 (65 + a0_3)) - 1))))) ++ (⟨#[]⟩ : ByteArray)).size + t188.size ≤ 9223372036854775807 then (some ((((⟨#[36]⟩ : ByteArray) ++ (Utf8.encode (wrap32 (wrap64 ((wrap64 (65 + a0_3)) - 1))))) ++ (⟨#[]⟩ : ByteArray)) ++ t188)) else (none))) else (none)) else (none))) else (if a0_4 = true then (if 0 + (Utf8.encode (wrap32 (wrap64 ((wrap64 (65 + a0_3)) - 1)))).size ≤ 9223372036854775807 then (if ((⟨#[]⟩ : ByteArray) ++ (Utf8.encode (wrap32 (wrap64 ((wrap64 (65 + a0_3)) - 1))))).size + 1 ≤ 9223372036854775807 then ((addr_decimal.f k a0_2).bind fun t189 => (if (((⟨#[]⟩ : ByteArray) ++ (Utf8.encode (wrap32 (wrap64 ((wrap64 (65 + a0_3)) - 1))))) ++ (⟨#[36]⟩ : ByteArray)).size + t189.size ≤ 9223372036854775807 then (some ((((⟨#[]⟩ : ByteArray) ++ (Utf8.encode (wrap32 (wrap64 ((wrap64 (65 + a0_3)) - 1))))) ++ (⟨#[36]⟩ : ByteArray)) ++ t189)) else (none))) else (none)) else (none)) else (if 0 + (Utf8.encode (wrap32 (wrap64 ((wrap64 (65 + a0_3)) - 1)))).size ≤ 9223372036854775807 then (if ((⟨#[]⟩ : ByteArray) ++ (Utf8.encode (wrap32 (wrap64 ((wrap64 (65 + a0_3)) - 1))))).size + 0 ≤ 9223372036854775807 then ((addr_decimal.f k a0_2).bind fun t190 => (if (((⟨#[]⟩ : ByteArray) ++ (Utf8.encode (wrap32 (wrap64 ((wrap64 (65 + a0_3)) - 1))))) ++ (⟨#[]⟩ : ByteArray)).size + t190.size ≤ 9223372036854775807 then (some ((((⟨#[]⟩ : ByteArray) ++ (Utf8.encode (wrap32 (wrap64 ((wrap64 (65 + a0_3)) - 1))))) ++ (⟨#[]⟩ : ByteArray)) ++ t190)) else (none))) else (none)) else (none)))
theorem addr_cell.mono : ∀ a0 a1 a2 a3 a4 a5 k, LeO (addr_cell.f k a0 a1 a2 a3 a4 a5) (addr_cell.f (k + 1) a0 a1 a2 a3 a4 a5) := by
  intro a0 a1 a2 a3 a4 a5 k
  unfold addr_cell.f
  repeat' first
      | (with_reducible exact addr_decimal.mono _ _)
      | (with_reducible exact LeO.refl _)
      | (with_reducible exact LeO.none _)
      | (with_reducible refine LeO.ite ?_ ?_)
      | (with_reducible refine LeO.bind ?_ (fun _ => ?_))
      | exact addr_decimal.mono _ _
      | exact LeO.none _
      | refine LeO.ite ?_ ?_
      | refine LeO.bind ?_ (fun _ => ?_)
def addr_cell.T6 : Bool × List (List Nat × List Nat) := (true, [([], []), ([], []), ([1], [1]), ([2], [2]), ([3], [3]), ([4], [4]), ([5], [5]), ([0, 6], [0, 6]), ([], []), ([7, 8], [7, 8]), ([], []), ([10], [10]), ([11], [11]), ([9, 12], [9, 12]), ([13, 12, 0, 1, 2, 3, 4, 5, 6, 7, 8, 9, 10, 11, 12, 13], [13])])
def addr_cell.B6 : List Nat := [0, 0, 2, 6, 14, 30, 62, 127, 0, 511, 0, 1024, 3072, 8191, 16383]
theorem addr_cell.tab6 : rtab .any (opsOf Tryd.f42 6) = addr_cell.T6 := by kernel_rfl
theorem addr_cell.bits6 : waitsOk addr_cell.T6.2 addr_cell.B6 = true := by kernel_rfl
set_option maxHeartbeats 8000000 in
set_option maxRecDepth 100000 in
theorem addr_cell.calls (k : Nat) (a0_0 : ByteArray) (a0_1 : ByteArray) (a0_2 : Int) (a0_3 : Int) (a0_4 : Bool) (a0_5 : Bool) (r : ByteArray) (w : World) (h : addr_cell.f k a0_0 a0_1 a0_2 a0_3 a0_4 a0_5 = some r) :
    Calls Tryd.prog 42 #[.agg #[.string a0_0, .string a0_1, .int .i64 a0_2, .int .i64 a0_3, .bool a0_4, .bool a0_5]] w fun e w' => e = .returned (.string r) ∧ Below w.heap.size w w' := by
  have hu23 := Tryd.underlying23
  have HB := Aside0.mk (Below.refl w.heap.size w)
  have H : (if a0_5 = true then (if a0_4 = true then (if 1 + (Utf8.encode (wrap32 (wrap64 ((wrap64 (65 + a0_3)) - 1)))).size ≤ 9223372036854775807 then (if ((⟨#[36]⟩ : ByteArray) ++ (Utf8.encode (wrap32 (wrap64 ((wrap64 (65 + a0_3)) - 1))))).size + 1 ≤ 9223372036854775807 then ((addr_decimal.f k a0_2).bind fun t187 => (if (((⟨#[36]⟩ : ByteArray) ++ (Utf8.encode (wrap32 (wrap64 ((wrap64 (65 + a0_3)) - 1))))) ++ (⟨#[36]⟩ : ByteArray)).size + t187.size ≤ 9223372036854775807 then (some ((((⟨#[36]⟩ : ByteArray) ++ (Utf8.encode (wrap32 (wrap64 ((wrap64 (65 + a0_3)) - 1))))) ++ (⟨#[36]⟩ : ByteArray)) ++ t187)) else (none))) else (none)) else (none)) else (if 1 + (Utf8.encode (wrap32 (wrap64 ((wrap64 (65 + a0_3)) - 1)))).size ≤ 9223372036854775807 then (if ((⟨#[36]⟩ : ByteArray) ++ (Utf8.encode (wrap32 (wrap64 ((wrap64 (65 + a0_3)) - 1))))).size + 0 ≤ 9223372036854775807 then ((addr_decimal.f k a0_2).bind fun t188 => (if (((⟨#[36]⟩ : ByteArray) ++ (Utf8.encode (wrap32 (wrap64 ((wrap64 (65 + a0_3)) - 1))))) ++ (⟨#[]⟩ : ByteArray)).size + t188.size ≤ 9223372036854775807 then (some ((((⟨#[36]⟩ : ByteArray) ++ (Utf8.encode (wrap32 (wrap64 ((wrap64 (65 + a0_3)) - 1))))) ++ (⟨#[]⟩ : ByteArray)) ++ t188)) else (none))) else (none)) else (none))) else (if a0_4 = true then (if 0 + (Utf8.encode (wrap32 (wrap64 ((wrap64 (65 + a0_3)) - 1)))).size ≤ 9223372036854775807 then (if ((⟨#[]⟩ : ByteArray) ++ (Utf8.encode (wrap32 (wrap64 ((wrap64 (65 + a0_3)) - 1))))).size + 1 ≤ 9223372036854775807 then ((addr_decimal.f k a0_2).bind fun t189 => (if (((⟨#[]⟩ : ByteArray) ++ (Utf8.encode (wrap32 (wrap64 ((wrap64 (65 + a0_3)) - 1))))) ++ (⟨#[36]⟩ : ByteArray)).size + t189.size ≤ 9223372036854775807 then (some ((((⟨#[]⟩ : ByteArray) ++ (Utf8.encode (wrap32 (wrap64 ((wrap64 (65 + a0_3)) - 1))))) ++ (⟨#[36]⟩ : ByteArray)) ++ t189)) else (none))) else (none)) else (none)) else (if 0 + (Utf8.encode (wrap32 (wrap64 ((wrap64 (65 + a0_3)) - 1)))).size ≤ 9223372036854775807 then (if ((⟨#[]⟩ : ByteArray) ++ (Utf8.encode (wrap32 (wrap64 ((wrap64 (65 + a0_3)) - 1))))).size + 0 ≤ 9223372036854775807 then ((addr_decimal.f k a0_2).bind fun t190 => (if (((⟨#[]⟩ : ByteArray) ++ (Utf8.encode (wrap32 (wrap64 ((wrap64 (65 + a0_3)) - 1))))) ++ (⟨#[]⟩ : ByteArray)).size + t190.size ≤ 9223372036854775807 then (some ((((⟨#[]⟩ : ByteArray) ++ (Utf8.encode (wrap32 (wrap64 ((wrap64 (65 + a0_3)) - 1))))) ++ (⟨#[]⟩ : ByteArray)) ++ t190)) else (none))) else (none)) else (none)))) = some r := h
  clear h
  by_cases c2 : a0_5 = true
  · subst c2
    have H1 : (if a0_4 = true then (if 1 + (Utf8.encode (wrap32 (wrap64 ((wrap64 (65 + a0_3)) - 1)))).size ≤ 9223372036854775807 then (if ((⟨#[36]⟩ : ByteArray) ++ (Utf8.encode (wrap32 (wrap64 ((wrap64 (65 + a0_3)) - 1))))).size + 1 ≤ 9223372036854775807 then ((addr_decimal.f k a0_2).bind fun t187 => (if (((⟨#[36]⟩ : ByteArray) ++ (Utf8.encode (wrap32 (wrap64 ((wrap64 (65 + a0_3)) - 1))))) ++ (⟨#[36]⟩ : ByteArray)).size + t187.size ≤ 9223372036854775807 then (some ((((⟨#[36]⟩ : ByteArray) ++ (Utf8.encode (wrap32 (wrap64 ((wrap64 (65 + a0_3)) - 1))))) ++ (⟨#[36]⟩ : ByteArray)) ++ t187)) else (none))) else (none)) else (none)) else (if 1 + (Utf8.encode (wrap32 (wrap64 ((wrap64 (65 + a0_3)) - 1)))).size ≤ 9223372036854775807 then (if ((⟨#[36]⟩ : ByteArray) ++ (Utf8.encode (wrap32 (wrap64 ((wrap64 (65 + a0_3)) - 1))))).size + 0 ≤ 9223372036854775807 then ((addr_decimal.f k a0_2).bind fun t188 => (if (((⟨#[36]⟩ : ByteArray) ++ (Utf8.encode (wrap32 (wrap64 ((wrap64 (65 + a0_3)) - 1))))) ++ (⟨#[]⟩ : ByteArray)).size + t188.size ≤ 9223372036854775807 then (some ((((⟨#[36]⟩ : ByteArray) ++ (Utf8.encode (wrap32 (wrap64 ((wrap64 (65 + a0_3)) - 1))))) ++ (⟨#[]⟩ : ByteArray)) ++ t188)) else (none))) else (none)) else (none))) = some r := by rw [if_pos rfl] at H; exact H
    clear H
    have H := H1
    clear H1
    by_cases c3 : a0_4 = true
    · subst c3
      have H1 : (if 1 + (Utf8.encode (wrap32 (wrap64 ((wrap64 (65 + a0_3)) - 1)))).size ≤ 9223372036854775807 then (if ((⟨#[36]⟩ : ByteArray) ++ (Utf8.encode (wrap32 (wrap64 ((wrap64 (65 + a0_3)) - 1))))).size + 1 ≤ 9223372036854775807 then ((addr_decimal.f k a0_2).bind fun t187 => (if (((⟨#[36]⟩ : ByteArray) ++ (Utf8.encode (wrap32 (wrap64 ((wrap64 (65 + a0_3)) - 1))))) ++ (⟨#[36]⟩ : ByteArray)).size + t187.size ≤ 9223372036854775807 then (some ((((⟨#[36]⟩ : ByteArray) ++ (Utf8.encode (wrap32 (wrap64 ((wrap64 (65 + a0_3)) - 1))))) ++ (⟨#[36]⟩ : ByteArray)) ++ t187)) else (none))) else (none)) else (none)) = some r := by rw [if_pos rfl] at H; exact H
      clear H
      have H := H1
      clear H1
      by_cases c4 : 1 + (Utf8.encode (wrap32 (wrap64 ((wrap64 (65 + a0_3)) - 1)))).size ≤ 9223372036854775807
      · rw [if_pos c4] at H
        have c4b0 := eq_true c4
        have c4b1 : decide (1 + (Utf8.encode (wrap32 (wrap64 ((wrap64 (65 + a0_3)) - 1)))).size ≤ 9223372036854775807) = true := decide_eq_true c4
        try have c4b2 : (9223372036854775807 < 1 + (Utf8.encode (wrap32 (wrap64 ((wrap64 (65 + a0_3)) - 1)))).size) = False := eq_false (Nat.not_lt.2 c4)
        by_cases c5 : ((⟨#[36]⟩ : ByteArray) ++ (Utf8.encode (wrap32 (wrap64 ((wrap64 (65 + a0_3)) - 1))))).size + 1 ≤ 9223372036854775807
        · rw [if_pos c5] at H
          have c5b0 := eq_true c5
          have c5b1 : decide (((⟨#[36]⟩ : ByteArray) ++ (Utf8.encode (wrap32 (wrap64 ((wrap64 (65 + a0_3)) - 1))))).size + 1 ≤ 9223372036854775807) = true := decide_eq_true c5
          try have c5b2 : (9223372036854775807 < ((⟨#[36]⟩ : ByteArray) ++ (Utf8.encode (wrap32 (wrap64 ((wrap64 (65 + a0_3)) - 1))))).size + 1) = False := eq_false (Nat.not_lt.2 c5)
          try (have c5b3 := c5; simp only [ByteArray.size_append, Nat.add_zero, Nat.zero_add, show (⟨#[36]⟩ : ByteArray).size = 1 from rfl] at c5b3; have c5b4 := eq_true c5b3; have c5b5 := eq_false (Nat.not_lt.2 c5b3))
          replace H := Option.bind_eq_some_iff.mp H
          obtain ⟨t187, A60, H⟩ := H
          replace H : (if (((⟨#[36]⟩ : ByteArray) ++ (Utf8.encode (wrap32 (wrap64 ((wrap64 (65 + a0_3)) - 1))))) ++ (⟨#[36]⟩ : ByteArray)).size + t187.size ≤ 9223372036854775807 then (some ((((⟨#[36]⟩ : ByteArray) ++ (Utf8.encode (wrap32 (wrap64 ((wrap64 (65 + a0_3)) - 1))))) ++ (⟨#[36]⟩ : ByteArray)) ++ t187)) else (none)) = some r := H
          have A6 := Aside0.mk A60
          clear A60
          by_cases c7 : (((⟨#[36]⟩ : ByteArray) ++ (Utf8.encode (wrap32 (wrap64 ((wrap64 (65 + a0_3)) - 1))))) ++ (⟨#[36]⟩ : ByteArray)).size + t187.size ≤ 9223372036854775807
          · rw [if_pos c7] at H
            have c7b0 := eq_true c7
            have c7b1 : decide ((((⟨#[36]⟩ : ByteArray) ++ (Utf8.encode (wrap32 (wrap64 ((wrap64 (65 + a0_3)) - 1))))) ++ (⟨#[36]⟩ : ByteArray)).size + t187.size ≤ 9223372036854775807) = true := decide_eq_true c7
            try have c7b2 : (9223372036854775807 < (((⟨#[36]⟩ : ByteArray) ++ (Utf8.encode (wrap32 (wrap64 ((wrap64 (65 + a0_3)) - 1))))) ++ (⟨#[36]⟩ : ByteArray)).size + t187.size) = False := eq_false (Nat.not_lt.2 c7)
            try (have c7b3 := c7; simp only [ByteArray.size_append, Nat.add_zero, Nat.zero_add, show (⟨#[36]⟩ : ByteArray).size = 1 from rfl] at c7b3; have c7b4 := eq_true c7b3; have c7b5 := eq_false (Nat.not_lt.2 c7b3))
            obtain rfl := Option.some.inj H
            go_enter Tryd.func42, Tryd.ntmps42
            try go_wp2_with (first | ((with_reducible refine gate_dst (N := 1) rfl ?_); refine box_event ?hg (N := 1) ?hd (cs := #[.string a0_0, .string a0_1, .int .i64 a0_2, .int .i64 a0_3, .bool true, .bool true]) (t := 23) ?hr ?_; (case hd => rfl); (case hg => rfl); (case hr => first | (go_simp; done) | (go_simp; rfl)); intro gb186 hg w8 hbox hb; have n0_ := Aside0.mk (below_step (by (repeat (first | (with_reducible first | exact HB.out | apply below_alloc | apply pw_below_drewN | apply below_drew1) | exact HB.out))) hb); have n1_ := Aside0.mk (hbox); have n2_ := Aside0.mk ((by rw [hg]; exact (below_size (by (repeat (first | (with_reducible first | exact HB.out | apply below_alloc | apply pw_below_drewN | apply below_drew1) | exact HB.out)))) : w.heap.size ≤ gb186)); have n3_ := Aside0.mk ((by rw [hg]; exact (below_size (by (repeat (first | (with_reducible first | exact HB.out | apply below_alloc | apply pw_below_drewN | apply below_drew1) | exact HB.out)))) : w.heap.size ≤ gb186)); clear HB; have HB := n0_; have BK186 := n1_; have GW186 := n2_; have GE186 := n3_; clear n0_ n1_ n2_ n3_; clear hb hbox hg; have hcz9_0 : w8.cell? ⟨gb186, 0, none⟩ = some (.string a0_0) := (blk_cell BK186.out 0).trans rfl; have hcz9_1 : w8.cell? ⟨gb186, 1, none⟩ = some (.string a0_1) := (blk_cell BK186.out 1).trans rfl; have hcz9_2 : w8.cell? ⟨gb186, 2, none⟩ = some (.int .i64 a0_2) := (blk_cell BK186.out 2).trans rfl; have hcz9_3 : w8.cell? ⟨gb186, 3, none⟩ = some (.int .i64 a0_3) := (blk_cell BK186.out 3).trans rfl; have hcz9_4 : w8.cell? ⟨gb186, 4, none⟩ = some (.bool true) := (blk_cell BK186.out 4).trans rfl; have hcz9_5 : w8.cell? ⟨gb186, 5, none⟩ = some (.bool true) := (blk_cell BK186.out 5).trans rfl; have hfz9_0 := blk_frozen BK186.out 0; have hfz9_1 := blk_frozen BK186.out 1; have hfz9_2 := blk_frozen BK186.out 2; have hfz9_3 := blk_frozen BK186.out 3; have hfz9_4 := blk_frozen BK186.out 4; have hfz9_5 := blk_frozen BK186.out 5))
            have n0_ := Aside0.mk (blk_drew BK186.out)
            have n1_ := Aside0.mk (below_drew1 HB.out)
            clear BK186
            clear HB
            have BK186 := n0_
            have HB := n1_
            clear n0_ n1_
            refine start_ (n := 15) (S := fun w' => w'.cell? ⟨gb186, 0, none⟩ = some (.string a0_0) ∧ w'.cell? ⟨gb186, 1, none⟩ = some (.string a0_1) ∧ w'.cell? ⟨gb186, 2, none⟩ = some (.int .i64 a0_2) ∧ w'.cell? ⟨gb186, 3, none⟩ = some (.int .i64 a0_3) ∧ w'.cell? ⟨gb186, 4, none⟩ = some (.bool true) ∧ w'.cell? ⟨gb186, 5, none⟩ = some (.bool true)) (ds := []) #[false, false, false, false, false, false, false, false, false, false, false, false, false, false, false] (by kernel_rfl) rfl rfl ⟨(blk_cell BK186.out 0).trans rfl, (blk_cell BK186.out 1).trans rfl, (blk_cell BK186.out 2).trans rfl, (blk_cell BK186.out 3).trans rfl, (blk_cell BK186.out 4).trans rfl, (blk_cell BK186.out 5).trans rfl⟩ (fun hHeld => ?_); refine with_tabW addr_cell.tab6 addr_cell.bits6 (fun HT_ HW_ => ?_)
            generalize w8.drew = w10 at BK186 HB hHeld ⊢
            refine pure_ (i := 0) (N := some 9) (v := ?_) (a' := ?_) #[true, false, false, false, false, false, false, false, false, false, false, false, false, false, false] rfl rfl (any_of HT_.out (by kernel_rfl)) (fun _ _ _ h => h) (Or.inl ⟨by rfl, ?_⟩) ?_ ?_
            rotate_left
            · intro w'
              go_simp
              with_reducible rfl
            rotate_left
            · simp only [Act.put, List.setIfInBounds_toArray, List.set_cons_zero, List.set_cons_succ, i64_w, i32_w]
              rfl
            refine pure_ (i := 1) (N := some 10) (v := ?_) (a' := ?_) #[true, true, false, false, false, false, false, false, false, false, false, false, false, false, false] rfl rfl (any_of HT_.out (by kernel_rfl)) (fun _ _ _ h => h) (Or.inl ⟨by rfl, ?_⟩) ?_ ?_
            rotate_left
            · intro w'
              go_simp
              with_reducible rfl
            rotate_left
            · simp only [Act.put, List.setIfInBounds_toArray, List.set_cons_zero, List.set_cons_succ, i64_w, i32_w]
              rfl
            refine pure_ (i := 8) (N := some 17) (v := ?_) (a' := ?_) #[true, true, false, false, false, false, false, false, true, false, false, false, false, false, false] rfl rfl (any_of HT_.out (by kernel_rfl)) (fun _ _ _ h => h) (Or.inl ⟨by rfl, ?_⟩) ?_ ?_
            rotate_left
            · intro w'
              go_simp
              with_reducible rfl
            rotate_left
            · simp only [Act.put, List.setIfInBounds_toArray, List.set_cons_zero, List.set_cons_succ, i64_w, i32_w]
              rfl
            refine pure_ (i := 10) (N := some 19) (v := ?_) (a' := ?_) #[true, true, false, false, false, false, false, false, true, false, true, false, false, false, false] rfl rfl (any_of HT_.out (by kernel_rfl)) (fun _ _ _ h => h) (Or.inl ⟨by rfl, ?_⟩) ?_ ?_
            rotate_left
            · intro w'
              go_simp
              with_reducible rfl
            rotate_left
            · simp only [Act.put, List.setIfInBounds_toArray, List.set_cons_zero, List.set_cons_succ, i64_w, i32_w]
              rfl
            refine take_ (i := 2) (N := some 11) (v := ?_) (a' := ?_) #[true, true, true, false, false, false, false, false, true, false, true, false, false, false, false] rfl rfl (take_ofW HT_.out HW_.out (by kernel_rfl)) (fun _ _ _ h => h) (Or.inl ⟨by rfl, ?_⟩) hHeld ?_ ?_
            rotate_left
            · rintro w' ⟨s0, s1, s2, s3, s4, s5⟩
              go_simp
              with_reducible rfl
            rotate_left
            · simp only [Act.put, List.setIfInBounds_toArray, List.set_cons_zero, List.set_cons_succ, i64_w, i32_w]
              rfl
            refine pure_ (i := 3) (N := some 12) (v := ?_) (a' := ?_) #[true, true, true, true, false, false, false, false, true, false, true, false, false, false, false] rfl rfl (any_of HT_.out (by kernel_rfl)) (fun _ _ _ h => h) (Or.inl ⟨by rfl, ?_⟩) ?_ ?_
            rotate_left
            · intro w'
              go_simp
              with_reducible rfl
            rotate_left
            · simp only [Act.put, List.setIfInBounds_toArray, List.set_cons_zero, List.set_cons_succ, i64_w, i32_w]
              rfl
            refine pure_ (i := 4) (N := some 13) (v := ?_) (a' := ?_) #[true, true, true, true, true, false, false, false, true, false, true, false, false, false, false] rfl rfl (any_of HT_.out (by kernel_rfl)) (fun _ _ _ h => h) (Or.inl ⟨by rfl, ?_⟩) ?_ ?_
            rotate_left
            · intro w'
              go_simp
              with_reducible rfl
            rotate_left
            · simp only [Act.put, List.setIfInBounds_toArray, List.set_cons_zero, List.set_cons_succ, i64_w, i32_w]
              rfl
            refine pure_ (i := 5) (N := some 14) (v := ?_) (a' := ?_) #[true, true, true, true, true, true, false, false, true, false, true, false, false, false, false] rfl rfl (any_of HT_.out (by kernel_rfl)) (fun _ _ _ h => h) (Or.inl ⟨by rfl, ?_⟩) ?_ ?_
            rotate_left
            · intro w'
              go_simp
              with_reducible rfl
            rotate_left
            · simp only [Act.put, List.setIfInBounds_toArray, List.set_cons_zero, List.set_cons_succ, i64_w, i32_w]
              rfl
            refine pure_ (i := 6) (N := some 15) (v := ?_) (a' := ?_) #[true, true, true, true, true, true, true, false, true, false, true, false, false, false, false] rfl rfl (any_of HT_.out (by kernel_rfl)) (fun _ _ _ h => h) (Or.inl ⟨by rfl, ?_⟩) ?_ ?_
            rotate_left
            · intro w'
              go_simp
              with_reducible rfl
            rotate_left
            · simp only [Act.put, List.setIfInBounds_toArray, List.set_cons_zero, List.set_cons_succ, i64_w, i32_w]
              rfl
            refine pure_ (i := 7) (N := some 16) (v := ?_) (a' := ?_) #[true, true, true, true, true, true, true, true, true, false, true, false, false, false, false] rfl rfl (any_of HT_.out (by kernel_rfl)) (fun _ _ _ h => h) (Or.inl ⟨by rfl, ?_⟩) ?_ ?_
            rotate_left
            · intro w'
              go_simp
              with_reducible rfl
            rotate_left
            · simp only [Act.put, List.setIfInBounds_toArray, List.set_cons_zero, List.set_cons_succ, i64_w, i32_w]
              rfl
            refine pure_ (i := 9) (N := some 18) (v := ?_) (a' := ?_) #[true, true, true, true, true, true, true, true, true, true, true, false, false, false, false] rfl rfl (any_of HT_.out (by kernel_rfl)) (fun _ _ _ h => h) (Or.inl ⟨by rfl, ?_⟩) ?_ ?_
            rotate_left
            · intro w'
              go_simp
              with_reducible rfl
            rotate_left
            · simp only [Act.put, List.setIfInBounds_toArray, List.set_cons_zero, List.set_cons_succ, i64_w, i32_w]
              rfl
            refine take_ (i := 11) (N := some 20) (v := ?_) (a' := ?_) #[true, true, true, true, true, true, true, true, true, true, true, true, false, false, false] rfl rfl (take_ofW HT_.out HW_.out (by kernel_rfl)) (fun _ _ _ h => h) (Or.inl ⟨by rfl, ?_⟩) hHeld ?_ ?_
            rotate_left
            · rintro w' ⟨s0, s1, s2, s3, s4, s5⟩
              go_simp
              with_reducible rfl
            rotate_left
            · simp only [Act.put, List.setIfInBounds_toArray, List.set_cons_zero, List.set_cons_succ, i64_w, i32_w]
              rfl
            refine one_ (i := 12) (N := some 21) #[true, true, true, true, true, true, true, true, true, true, true, true, true, false, false] rfl rfl (one_of HT_.out (by kernel_rfl)) (by decide) (fun K hK => ?_)
            refine goes_ Tryd.func47 (by kernel_rfl) rfl #[.int .i64 a0_2] (by rfl) rfl rfl (by (try simp only [List.map_toArray, List.map_cons, List.map_nil]); first | done | rfl | (simp only [List.length_drop, List.length_take]; rfl)) ?_
            with_reducible refine (addr_decimal.calls k a0_2 t187 _ A6.out).mono ?_
            rintro e w11 ⟨rfl, hb⟩
            refine ⟨_, rfl, ?_⟩
            have n0_ := Aside0.mk (blk_below (g := gb186) (o := .cells #[.string a0_0, .string a0_1, .int .i64 a0_2, .int .i64 a0_3, .bool true, .bool true] 23 (0, 0)) (by (with_reducible repeat (first | refine blk_drewN ?_ _ | refine blk_drew ?_ | refine blk_alloc ?_ _)); exact BK186.out) hb)
            have n1_ := Aside0.mk (below_step (by (repeat (first | (with_reducible first | exact HB.out | apply below_alloc | apply pw_below_drewN | apply below_drew1 | refine below_set ?_ GE186.out) | exact HB.out))) hb)
            clear BK186
            clear HB
            have BK186 := n0_
            have HB := n1_
            clear n0_ n1_
            (try clear hb)
            (try clear hb2)
            (try clear hk)
            (try clear hi)
            refine hK.out _ _ ⟨(blk_cell BK186.out 0).trans rfl, (blk_cell BK186.out 1).trans rfl, (blk_cell BK186.out 2).trans rfl, (blk_cell BK186.out 3).trans rfl, (blk_cell BK186.out 4).trans rfl, (blk_cell BK186.out 5).trans rfl⟩ (fun hHeld => ?_)
            clear hK K
            refine norm_ (a' := ?_) ?_ ?_
            rotate_left
            · show Act.put _ (some 21) _ = _
              simp only [Act.put, List.setIfInBounds_toArray, List.set_cons_zero, List.set_cons_succ, i64_w, i32_w]
              rfl
            refine pure_ (i := 13) (N := some 22) (v := ?_) (a' := ?_) #[true, true, true, true, true, true, true, true, true, true, true, true, true, true, false] rfl rfl (any_of HT_.out (by kernel_rfl)) (fun _ _ _ h => h) (Or.inl ⟨by rfl, ?_⟩) ?_ ?_
            rotate_left
            · intro w'
              go_simp
              with_reducible rfl
            rotate_left
            · simp only [Act.put, List.setIfInBounds_toArray, List.set_cons_zero, List.set_cons_succ, i64_w, i32_w]
              rfl
            refine pure_ (i := 14) (N := some 2) (v := ?_) (a' := ?_) #[true, true, true, true, true, true, true, true, true, true, true, true, true, true, true] rfl rfl (any_of HT_.out (by kernel_rfl)) (fun _ _ _ h => h) (Or.inl ⟨by rfl, ?_⟩) ?_ ?_
            rotate_left
            · intro w'
              go_simp
              with_reducible rfl
            rotate_left
            · simp only [Act.put, List.setIfInBounds_toArray, List.set_cons_zero, List.set_cons_succ, i64_w, i32_w]
              rfl
            refine done_ (done_of HT_.out (by kernel_rfl)) ?_
            try go_wp2
            go_ret
            exact ⟨by first | rfl | (simp [errW_none, errW_some] <;> rfl) | (simp [*, errW_none, errW_some] <;> rfl), by (repeat (first | (with_reducible first | exact HB.out | apply below_alloc | apply pw_below_drewN | apply below_drew1 | refine below_set ?_ GE186.out) | exact HB.out))⟩
          · rw [if_neg c7] at H
            exact absurd H (by simp)
        · rw [if_neg c5] at H
          exact absurd H (by simp)
      · rw [if_neg c4] at H
        exact absurd H (by simp)
    · replace c3 := Bool.eq_false_iff.mpr c3
      subst c3
      have H1 : (if 1 + (Utf8.encode (wrap32 (wrap64 ((wrap64 (65 + a0_3)) - 1)))).size ≤ 9223372036854775807 then (if ((⟨#[36]⟩ : ByteArray) ++ (Utf8.encode (wrap32 (wrap64 ((wrap64 (65 + a0_3)) - 1))))).size + 0 ≤ 9223372036854775807 then ((addr_decimal.f k a0_2).bind fun t188 => (if (((⟨#[36]⟩ : ByteArray) ++ (Utf8.encode (wrap32 (wrap64 ((wrap64 (65 + a0_3)) - 1))))) ++ (⟨#[]⟩ : ByteArray)).size + t188.size ≤ 9223372036854775807 then (some ((((⟨#[36]⟩ : ByteArray) ++ (Utf8.encode (wrap32 (wrap64 ((wrap64 (65 + a0_3)) - 1))))) ++ (⟨#[]⟩ : ByteArray)) ++ t188)) else (none))) else (none)) else (none)) = some r := by rw [if_neg (show ¬ (false = true) by decide)] at H; exact H
      clear H
      have H := H1
      clear H1
      by_cases c12 : 1 + (Utf8.encode (wrap32 (wrap64 ((wrap64 (65 + a0_3)) - 1)))).size ≤ 9223372036854775807
      · rw [if_pos c12] at H
        have c12b0 := eq_true c12
        have c12b1 : decide (1 + (Utf8.encode (wrap32 (wrap64 ((wrap64 (65 + a0_3)) - 1)))).size ≤ 9223372036854775807) = true := decide_eq_true c12
        try have c12b2 : (9223372036854775807 < 1 + (Utf8.encode (wrap32 (wrap64 ((wrap64 (65 + a0_3)) - 1)))).size) = False := eq_false (Nat.not_lt.2 c12)
        by_cases c13 : ((⟨#[36]⟩ : ByteArray) ++ (Utf8.encode (wrap32 (wrap64 ((wrap64 (65 + a0_3)) - 1))))).size + 0 ≤ 9223372036854775807
        · rw [if_pos c13] at H
          have c13b0 := eq_true c13
          have c13b1 : decide (((⟨#[36]⟩ : ByteArray) ++ (Utf8.encode (wrap32 (wrap64 ((wrap64 (65 + a0_3)) - 1))))).size + 0 ≤ 9223372036854775807) = true := decide_eq_true c13
          try have c13b2 : (9223372036854775807 < ((⟨#[36]⟩ : ByteArray) ++ (Utf8.encode (wrap32 (wrap64 ((wrap64 (65 + a0_3)) - 1))))).size + 0) = False := eq_false (Nat.not_lt.2 c13)
          try (have c13b3 := c13; simp only [ByteArray.size_append, Nat.add_zero, Nat.zero_add, show (⟨#[36]⟩ : ByteArray).size = 1 from rfl] at c13b3; have c13b4 := eq_true c13b3; have c13b5 := eq_false (Nat.not_lt.2 c13b3))
          replace H := Option.bind_eq_some_iff.mp H
          obtain ⟨t188, A140, H⟩ := H
          replace H : (if (((⟨#[36]⟩ : ByteArray) ++ (Utf8.encode (wrap32 (wrap64 ((wrap64 (65 + a0_3)) - 1))))) ++ (⟨#[]⟩ : ByteArray)).size + t188.size ≤ 9223372036854775807 then (some ((((⟨#[36]⟩ : ByteArray) ++ (Utf8.encode (wrap32 (wrap64 ((wrap64 (65 + a0_3)) - 1))))) ++ (⟨#[]⟩ : ByteArray)) ++ t188)) else (none)) = some r := H
          have A14 := Aside0.mk A140
          clear A140
          by_cases c15 : (((⟨#[36]⟩ : ByteArray) ++ (Utf8.encode (wrap32 (wrap64 ((wrap64 (65 + a0_3)) - 1))))) ++ (⟨#[]⟩ : ByteArray)).size + t188.size ≤ 9223372036854775807
          · rw [if_pos c15] at H
            have c15b0 := eq_true c15
            have c15b1 : decide ((((⟨#[36]⟩ : ByteArray) ++ (Utf8.encode (wrap32 (wrap64 ((wrap64 (65 + a0_3)) - 1))))) ++ (⟨#[]⟩ : ByteArray)).size + t188.size ≤ 9223372036854775807) = true := decide_eq_true c15
            try have c15b2 : (9223372036854775807 < (((⟨#[36]⟩ : ByteArray) ++ (Utf8.encode (wrap32 (wrap64 ((wrap64 (65 + a0_3)) - 1))))) ++ (⟨#[]⟩ : ByteArray)).size + t188.size) = False := eq_false (Nat.not_lt.2 c15)
            try (have c15b3 := c15; simp only [ByteArray.size_append, Nat.add_zero, Nat.zero_add, show (⟨#[36]⟩ : ByteArray).size = 1 from rfl, show (⟨#[]⟩ : ByteArray).size = 0 from rfl] at c15b3; have c15b4 := eq_true c15b3; have c15b5 := eq_false (Nat.not_lt.2 c15b3))
            obtain rfl := Option.some.inj H
            go_enter Tryd.func42, Tryd.ntmps42
            try go_wp2_with (first | ((with_reducible refine gate_dst (N := 1) rfl ?_); refine box_event ?hg (N := 1) ?hd (cs := #[.string a0_0, .string a0_1, .int .i64 a0_2, .int .i64 a0_3, .bool false, .bool true]) (t := 23) ?hr ?_; (case hd => rfl); (case hg => rfl); (case hr => first | (go_simp; done) | (go_simp; rfl)); intro gb186 hg w16 hbox hb; have n0_ := Aside0.mk (below_step (by (repeat (first | (with_reducible first | exact HB.out | apply below_alloc | apply pw_below_drewN | apply below_drew1) | exact HB.out))) hb); have n1_ := Aside0.mk (hbox); have n2_ := Aside0.mk ((by rw [hg]; exact (below_size (by (repeat (first | (with_reducible first | exact HB.out | apply below_alloc | apply pw_below_drewN | apply below_drew1) | exact HB.out)))) : w.heap.size ≤ gb186)); have n3_ := Aside0.mk ((by rw [hg]; exact (below_size (by (repeat (first | (with_reducible first | exact HB.out | apply below_alloc | apply pw_below_drewN | apply below_drew1) | exact HB.out)))) : w.heap.size ≤ gb186)); clear HB; have HB := n0_; have BK186 := n1_; have GW186 := n2_; have GE186 := n3_; clear n0_ n1_ n2_ n3_; clear hb hbox hg; have hcz17_0 : w16.cell? ⟨gb186, 0, none⟩ = some (.string a0_0) := (blk_cell BK186.out 0).trans rfl; have hcz17_1 : w16.cell? ⟨gb186, 1, none⟩ = some (.string a0_1) := (blk_cell BK186.out 1).trans rfl; have hcz17_2 : w16.cell? ⟨gb186, 2, none⟩ = some (.int .i64 a0_2) := (blk_cell BK186.out 2).trans rfl; have hcz17_3 : w16.cell? ⟨gb186, 3, none⟩ = some (.int .i64 a0_3) := (blk_cell BK186.out 3).trans rfl; have hcz17_4 : w16.cell? ⟨gb186, 4, none⟩ = some (.bool false) := (blk_cell BK186.out 4).trans rfl; have hcz17_5 : w16.cell? ⟨gb186, 5, none⟩ = some (.bool true) := (blk_cell BK186.out 5).trans rfl; have hfz17_0 := blk_frozen BK186.out 0; have hfz17_1 := blk_frozen BK186.out 1; have hfz17_2 := blk_frozen BK186.out 2; have hfz17_3 := blk_frozen BK186.out 3; have hfz17_4 := blk_frozen BK186.out 4; have hfz17_5 := blk_frozen BK186.out 5))
            have n0_ := Aside0.mk (blk_drew BK186.out)
            have n1_ := Aside0.mk (below_drew1 HB.out)
            clear BK186
            clear HB
            have BK186 := n0_
            have HB := n1_
            clear n0_ n1_
            refine start_ (n := 15) (S := fun w' => w'.cell? ⟨gb186, 0, none⟩ = some (.string a0_0) ∧ w'.cell? ⟨gb186, 1, none⟩ = some (.string a0_1) ∧ w'.cell? ⟨gb186, 2, none⟩ = some (.int .i64 a0_2) ∧ w'.cell? ⟨gb186, 3, none⟩ = some (.int .i64 a0_3) ∧ w'.cell? ⟨gb186, 4, none⟩ = some (.bool false) ∧ w'.cell? ⟨gb186, 5, none⟩ = some (.bool true)) (ds := []) #[false, false, false, false, false, false, false, false, false, false, false, false, false, false, false] (by kernel_rfl) rfl rfl ⟨(blk_cell BK186.out 0).trans rfl, (blk_cell BK186.out 1).trans rfl, (blk_cell BK186.out 2).trans rfl, (blk_cell BK186.out 3).trans rfl, (blk_cell BK186.out 4).trans rfl, (blk_cell BK186.out 5).trans rfl⟩ (fun hHeld => ?_); refine with_tabW addr_cell.tab6 addr_cell.bits6 (fun HT_ HW_ => ?_)
            generalize w16.drew = w18 at BK186 HB hHeld ⊢
            refine pure_ (i := 0) (N := some 9) (v := ?_) (a' := ?_) #[true, false, false, false, false, false, false, false, false, false, false, false, false, false, false] rfl rfl (any_of HT_.out (by kernel_rfl)) (fun _ _ _ h => h) (Or.inl ⟨by rfl, ?_⟩) ?_ ?_
            rotate_left
            · intro w'
              go_simp
              with_reducible rfl
            rotate_left
            · simp only [Act.put, List.setIfInBounds_toArray, List.set_cons_zero, List.set_cons_succ, i64_w, i32_w]
              rfl
            refine pure_ (i := 1) (N := some 10) (v := ?_) (a' := ?_) #[true, true, false, false, false, false, false, false, false, false, false, false, false, false, false] rfl rfl (any_of HT_.out (by kernel_rfl)) (fun _ _ _ h => h) (Or.inl ⟨by rfl, ?_⟩) ?_ ?_
            rotate_left
            · intro w'
              go_simp
              with_reducible rfl
            rotate_left
            · simp only [Act.put, List.setIfInBounds_toArray, List.set_cons_zero, List.set_cons_succ, i64_w, i32_w]
              rfl
            refine pure_ (i := 8) (N := some 17) (v := ?_) (a' := ?_) #[true, true, false, false, false, false, false, false, true, false, false, false, false, false, false] rfl rfl (any_of HT_.out (by kernel_rfl)) (fun _ _ _ h => h) (Or.inl ⟨by rfl, ?_⟩) ?_ ?_
            rotate_left
            · intro w'
              go_simp
              with_reducible rfl
            rotate_left
            · simp only [Act.put, List.setIfInBounds_toArray, List.set_cons_zero, List.set_cons_succ, i64_w, i32_w]
              rfl
            refine pure_ (i := 10) (N := some 19) (v := ?_) (a' := ?_) #[true, true, false, false, false, false, false, false, true, false, true, false, false, false, false] rfl rfl (any_of HT_.out (by kernel_rfl)) (fun _ _ _ h => h) (Or.inl ⟨by rfl, ?_⟩) ?_ ?_
            rotate_left
            · intro w'
              go_simp
              with_reducible rfl
            rotate_left
            · simp only [Act.put, List.setIfInBounds_toArray, List.set_cons_zero, List.set_cons_succ, i64_w, i32_w]
              rfl
            refine take_ (i := 2) (N := some 11) (v := ?_) (a' := ?_) #[true, true, true, false, false, false, false, false, true, false, true, false, false, false, false] rfl rfl (take_ofW HT_.out HW_.out (by kernel_rfl)) (fun _ _ _ h => h) (Or.inl ⟨by rfl, ?_⟩) hHeld ?_ ?_
            rotate_left
            · rintro w' ⟨s0, s1, s2, s3, s4, s5⟩
              go_simp
              with_reducible rfl
            rotate_left
            · simp only [Act.put, List.setIfInBounds_toArray, List.set_cons_zero, List.set_cons_succ, i64_w, i32_w]
              rfl
            refine pure_ (i := 3) (N := some 12) (v := ?_) (a' := ?_) #[true, true, true, true, false, false, false, false, true, false, true, false, false, false, false] rfl rfl (any_of HT_.out (by kernel_rfl)) (fun _ _ _ h => h) (Or.inl ⟨by rfl, ?_⟩) ?_ ?_
            rotate_left
            · intro w'
              go_simp
              with_reducible rfl
            rotate_left
            · simp only [Act.put, List.setIfInBounds_toArray, List.set_cons_zero, List.set_cons_succ, i64_w, i32_w]
              rfl
            refine pure_ (i := 4) (N := some 13) (v := ?_) (a' := ?_) #[true, true, true, true, true, false, false, false, true, false, true, false, false, false, false] rfl rfl (any_of HT_.out (by kernel_rfl)) (fun _ _ _ h => h) (Or.inl ⟨by rfl, ?_⟩) ?_ ?_
            rotate_left
            · intro w'
              go_simp
              with_reducible rfl
            rotate_left
            · simp only [Act.put, List.setIfInBounds_toArray, List.set_cons_zero, List.set_cons_succ, i64_w, i32_w]
              rfl
            refine pure_ (i := 5) (N := some 14) (v := ?_) (a' := ?_) #[true, true, true, true, true, true, false, false, true, false, true, false, false, false, false] rfl rfl (any_of HT_.out (by kernel_rfl)) (fun _ _ _ h => h) (Or.inl ⟨by rfl, ?_⟩) ?_ ?_
            rotate_left
            · intro w'
              go_simp
              with_reducible rfl
            rotate_left
            · simp only [Act.put, List.setIfInBounds_toArray, List.set_cons_zero, List.set_cons_succ, i64_w, i32_w]
              rfl
            refine pure_ (i := 6) (N := some 15) (v := ?_) (a' := ?_) #[true, true, true, true, true, true, true, false, true, false, true, false, false, false, false] rfl rfl (any_of HT_.out (by kernel_rfl)) (fun _ _ _ h => h) (Or.inl ⟨by rfl, ?_⟩) ?_ ?_
            rotate_left
            · intro w'
              go_simp
              with_reducible rfl
            rotate_left
            · simp only [Act.put, List.setIfInBounds_toArray, List.set_cons_zero, List.set_cons_succ, i64_w, i32_w]
              rfl
            refine pure_ (i := 7) (N := some 16) (v := ?_) (a' := ?_) #[true, true, true, true, true, true, true, true, true, false, true, false, false, false, false] rfl rfl (any_of HT_.out (by kernel_rfl)) (fun _ _ _ h => h) (Or.inl ⟨by rfl, ?_⟩) ?_ ?_
            rotate_left
            · intro w'
              go_simp
              with_reducible rfl
            rotate_left
            · simp only [Act.put, List.setIfInBounds_toArray, List.set_cons_zero, List.set_cons_succ, i64_w, i32_w]
              rfl
            refine pure_ (i := 9) (N := some 18) (v := ?_) (a' := ?_) #[true, true, true, true, true, true, true, true, true, true, true, false, false, false, false] rfl rfl (any_of HT_.out (by kernel_rfl)) (fun _ _ _ h => h) (Or.inl ⟨by rfl, ?_⟩) ?_ ?_
            rotate_left
            · intro w'
              go_simp
              with_reducible rfl
            rotate_left
            · simp only [Act.put, List.setIfInBounds_toArray, List.set_cons_zero, List.set_cons_succ, i64_w, i32_w]
              rfl
            refine take_ (i := 11) (N := some 20) (v := ?_) (a' := ?_) #[true, true, true, true, true, true, true, true, true, true, true, true, false, false, false] rfl rfl (take_ofW HT_.out HW_.out (by kernel_rfl)) (fun _ _ _ h => h) (Or.inl ⟨by rfl, ?_⟩) hHeld ?_ ?_
            rotate_left
            · rintro w' ⟨s0, s1, s2, s3, s4, s5⟩
              go_simp
              with_reducible rfl
            rotate_left
            · simp only [Act.put, List.setIfInBounds_toArray, List.set_cons_zero, List.set_cons_succ, i64_w, i32_w]
              rfl
            refine one_ (i := 12) (N := some 21) #[true, true, true, true, true, true, true, true, true, true, true, true, true, false, false] rfl rfl (one_of HT_.out (by kernel_rfl)) (by decide) (fun K hK => ?_)
            refine goes_ Tryd.func47 (by kernel_rfl) rfl #[.int .i64 a0_2] (by rfl) rfl rfl (by (try simp only [List.map_toArray, List.map_cons, List.map_nil]); first | done | rfl | (simp only [List.length_drop, List.length_take]; rfl)) ?_
            with_reducible refine (addr_decimal.calls k a0_2 t188 _ A14.out).mono ?_
            rintro e w19 ⟨rfl, hb⟩
            refine ⟨_, rfl, ?_⟩
            have n0_ := Aside0.mk (blk_below (g := gb186) (o := .cells #[.string a0_0, .string a0_1, .int .i64 a0_2, .int .i64 a0_3, .bool false, .bool true] 23 (0, 0)) (by (with_reducible repeat (first | refine blk_drewN ?_ _ | refine blk_drew ?_ | refine blk_alloc ?_ _)); exact BK186.out) hb)
            have n1_ := Aside0.mk (below_step (by (repeat (first | (with_reducible first | exact HB.out | apply below_alloc | apply pw_below_drewN | apply below_drew1 | refine below_set ?_ GE186.out) | exact HB.out))) hb)
            clear BK186
            clear HB
            have BK186 := n0_
            have HB := n1_
            clear n0_ n1_
            (try clear hb)
            (try clear hb2)
            (try clear hk)
            (try clear hi)
            refine hK.out _ _ ⟨(blk_cell BK186.out 0).trans rfl, (blk_cell BK186.out 1).trans rfl, (blk_cell BK186.out 2).trans rfl, (blk_cell BK186.out 3).trans rfl, (blk_cell BK186.out 4).trans rfl, (blk_cell BK186.out 5).trans rfl⟩ (fun hHeld => ?_)
            clear hK K
            refine norm_ (a' := ?_) ?_ ?_
            rotate_left
            · show Act.put _ (some 21) _ = _
              simp only [Act.put, List.setIfInBounds_toArray, List.set_cons_zero, List.set_cons_succ, i64_w, i32_w]
              rfl
            refine pure_ (i := 13) (N := some 22) (v := ?_) (a' := ?_) #[true, true, true, true, true, true, true, true, true, true, true, true, true, true, false] rfl rfl (any_of HT_.out (by kernel_rfl)) (fun _ _ _ h => h) (Or.inl ⟨by rfl, ?_⟩) ?_ ?_
            rotate_left
            · intro w'
              go_simp
              with_reducible rfl
            rotate_left
            · simp only [Act.put, List.setIfInBounds_toArray, List.set_cons_zero, List.set_cons_succ, i64_w, i32_w]
              rfl
            refine pure_ (i := 14) (N := some 2) (v := ?_) (a' := ?_) #[true, true, true, true, true, true, true, true, true, true, true, true, true, true, true] rfl rfl (any_of HT_.out (by kernel_rfl)) (fun _ _ _ h => h) (Or.inl ⟨by rfl, ?_⟩) ?_ ?_
            rotate_left
            · intro w'
              go_simp
              with_reducible rfl
            rotate_left
            · simp only [Act.put, List.setIfInBounds_toArray, List.set_cons_zero, List.set_cons_succ, i64_w, i32_w]
              rfl
            refine done_ (done_of HT_.out (by kernel_rfl)) ?_
            try go_wp2
            go_ret
            exact ⟨by first | rfl | (simp [errW_none, errW_some] <;> rfl) | (simp [*, errW_none, errW_some] <;> rfl), by (repeat (first | (with_reducible first | exact HB.out | apply below_alloc | apply pw_below_drewN | apply below_drew1 | refine below_set ?_ GE186.out) | exact HB.out))⟩
          · rw [if_neg c15] at H
            exact absurd H (by simp)
        · rw [if_neg c13] at H
          exact absurd H (by simp)
      · rw [if_neg c12] at H
        exact absurd H (by simp)
  · replace c2 := Bool.eq_false_iff.mpr c2
    subst c2
    have H1 : (if a0_4 = true then (if 0 + (Utf8.encode (wrap32 (wrap64 ((wrap64 (65 + a0_3)) - 1)))).size ≤ 9223372036854775807 then (if ((⟨#[]⟩ : ByteArray) ++ (Utf8.encode (wrap32 (wrap64 ((wrap64 (65 + a0_3)) - 1))))).size + 1 ≤ 9223372036854775807 then ((addr_decimal.f k a0_2).bind fun t189 => (if (((⟨#[]⟩ : ByteArray) ++ (Utf8.encode (wrap32 (wrap64 ((wrap64 (65 + a0_3)) - 1))))) ++ (⟨#[36]⟩ : ByteArray)).size + t189.size ≤ 9223372036854775807 then (some ((((⟨#[]⟩ : ByteArray) ++ (Utf8.encode (wrap32 (wrap64 ((wrap64 (65 + a0_3)) - 1))))) ++ (⟨#[36]⟩ : ByteArray)) ++ t189)) else (none))) else (none)) else (none)) else (if 0 + (Utf8.encode (wrap32 (wrap64 ((wrap64 (65 + a0_3)) - 1)))).size ≤ 9223372036854775807 then (if ((⟨#[]⟩ : ByteArray) ++ (Utf8.encode (wrap32 (wrap64 ((wrap64 (65 + a0_3)) - 1))))).size + 0 ≤ 9223372036854775807 then ((addr_decimal.f k a0_2).bind fun t190 => (if (((⟨#[]⟩ : ByteArray) ++ (Utf8.encode (wrap32 (wrap64 ((wrap64 (65 + a0_3)) - 1))))) ++ (⟨#[]⟩ : ByteArray)).size + t190.size ≤ 9223372036854775807 then (some ((((⟨#[]⟩ : ByteArray) ++ (Utf8.encode (wrap32 (wrap64 ((wrap64 (65 + a0_3)) - 1))))) ++ (⟨#[]⟩ : ByteArray)) ++ t190)) else (none))) else (none)) else (none))) = some r := by rw [if_neg (show ¬ (false = true) by decide)] at H; exact H
    clear H
    have H := H1
    clear H1
    by_cases c20 : a0_4 = true
    · subst c20
      have H1 : (if 0 + (Utf8.encode (wrap32 (wrap64 ((wrap64 (65 + a0_3)) - 1)))).size ≤ 9223372036854775807 then (if ((⟨#[]⟩ : ByteArray) ++ (Utf8.encode (wrap32 (wrap64 ((wrap64 (65 + a0_3)) - 1))))).size + 1 ≤ 9223372036854775807 then ((addr_decimal.f k a0_2).bind fun t189 => (if (((⟨#[]⟩ : ByteArray) ++ (Utf8.encode (wrap32 (wrap64 ((wrap64 (65 + a0_3)) - 1))))) ++ (⟨#[36]⟩ : ByteArray)).size + t189.size ≤ 9223372036854775807 then (some ((((⟨#[]⟩ : ByteArray) ++ (Utf8.encode (wrap32 (wrap64 ((wrap64 (65 + a0_3)) - 1))))) ++ (⟨#[36]⟩ : ByteArray)) ++ t189)) else (none))) else (none)) else (none)) = some r := by rw [if_pos rfl] at H; exact H
      clear H
      have H := H1
      clear H1
      by_cases c21 : 0 + (Utf8.encode (wrap32 (wrap64 ((wrap64 (65 + a0_3)) - 1)))).size ≤ 9223372036854775807
      · rw [if_pos c21] at H
        have c21b0 := eq_true c21
        have c21b1 : decide (0 + (Utf8.encode (wrap32 (wrap64 ((wrap64 (65 + a0_3)) - 1)))).size ≤ 9223372036854775807) = true := decide_eq_true c21
        try have c21b2 : (9223372036854775807 < 0 + (Utf8.encode (wrap32 (wrap64 ((wrap64 (65 + a0_3)) - 1)))).size) = False := eq_false (Nat.not_lt.2 c21)
        try (have c21b3 := c21; simp only [ByteArray.size_append, Nat.add_zero, Nat.zero_add] at c21b3; have c21b4 := eq_true c21b3; have c21b5 := eq_false (Nat.not_lt.2 c21b3))
        by_cases c22 : ((⟨#[]⟩ : ByteArray) ++ (Utf8.encode (wrap32 (wrap64 ((wrap64 (65 + a0_3)) - 1))))).size + 1 ≤ 9223372036854775807
        · rw [if_pos c22] at H
          have c22b0 := eq_true c22
          have c22b1 : decide (((⟨#[]⟩ : ByteArray) ++ (Utf8.encode (wrap32 (wrap64 ((wrap64 (65 + a0_3)) - 1))))).size + 1 ≤ 9223372036854775807) = true := decide_eq_true c22
          try have c22b2 : (9223372036854775807 < ((⟨#[]⟩ : ByteArray) ++ (Utf8.encode (wrap32 (wrap64 ((wrap64 (65 + a0_3)) - 1))))).size + 1) = False := eq_false (Nat.not_lt.2 c22)
          try (have c22b3 := c22; simp only [ByteArray.size_append, Nat.add_zero, Nat.zero_add, show (⟨#[]⟩ : ByteArray).size = 0 from rfl] at c22b3; have c22b4 := eq_true c22b3; have c22b5 := eq_false (Nat.not_lt.2 c22b3))
          replace H := Option.bind_eq_some_iff.mp H
          obtain ⟨t189, A230, H⟩ := H
          replace H : (if (((⟨#[]⟩ : ByteArray) ++ (Utf8.encode (wrap32 (wrap64 ((wrap64 (65 + a0_3)) - 1))))) ++ (⟨#[36]⟩ : ByteArray)).size + t189.size ≤ 9223372036854775807 then (some ((((⟨#[]⟩ : ByteArray) ++ (Utf8.encode (wrap32 (wrap64 ((wrap64 (65 + a0_3)) - 1))))) ++ (⟨#[36]⟩ : ByteArray)) ++ t189)) else (none)) = some r := H
          have A23 := Aside0.mk A230
          clear A230
          by_cases c24 : (((⟨#[]⟩ : ByteArray) ++ (Utf8.encode (wrap32 (wrap64 ((wrap64 (65 + a0_3)) - 1))))) ++ (⟨#[36]⟩ : ByteArray)).size + t189.size ≤ 9223372036854775807
          · rw [if_pos c24] at H
            have c24b0 := eq_true c24
            have c24b1 : decide ((((⟨#[]⟩ : ByteArray) ++ (Utf8.encode (wrap32 (wrap64 ((wrap64 (65 + a0_3)) - 1))))) ++ (⟨#[36]⟩ : ByteArray)).size + t189.size ≤ 9223372036854775807) = true := decide_eq_true c24
            try have c24b2 : (9223372036854775807 < (((⟨#[]⟩ : ByteArray) ++ (Utf8.encode (wrap32 (wrap64 ((wrap64 (65 + a0_3)) - 1))))) ++ (⟨#[36]⟩ : ByteArray)).size + t189.size) = False := eq_false (Nat.not_lt.2 c24)
            try (have c24b3 := c24; simp only [ByteArray.size_append, Nat.add_zero, Nat.zero_add, show (⟨#[36]⟩ : ByteArray).size = 1 from rfl, show (⟨#[]⟩ : ByteArray).size = 0 from rfl] at c24b3; have c24b4 := eq_true c24b3; have c24b5 := eq_false (Nat.not_lt.2 c24b3))
            obtain rfl := Option.some.inj H
            go_enter Tryd.func42, Tryd.ntmps42
            try go_wp2_with (first | ((with_reducible refine gate_dst (N := 1) rfl ?_); refine box_event ?hg (N := 1) ?hd (cs := #[.string a0_0, .string a0_1, .int .i64 a0_2, .int .i64 a0_3, .bool true, .bool false]) (t := 23) ?hr ?_; (case hd => rfl); (case hg => rfl); (case hr => first | (go_simp; done) | (go_simp; rfl)); intro gb186 hg w25 hbox hb; have n0_ := Aside0.mk (below_step (by (repeat (first | (with_reducible first | exact HB.out | apply below_alloc | apply pw_below_drewN | apply below_drew1) | exact HB.out))) hb); have n1_ := Aside0.mk (hbox); have n2_ := Aside0.mk ((by rw [hg]; exact (below_size (by (repeat (first | (with_reducible first | exact HB.out | apply below_alloc | apply pw_below_drewN | apply below_drew1) | exact HB.out)))) : w.heap.size ≤ gb186)); have n3_ := Aside0.mk ((by rw [hg]; exact (below_size (by (repeat (first | (with_reducible first | exact HB.out | apply below_alloc | apply pw_below_drewN | apply below_drew1) | exact HB.out)))) : w.heap.size ≤ gb186)); clear HB; have HB := n0_; have BK186 := n1_; have GW186 := n2_; have GE186 := n3_; clear n0_ n1_ n2_ n3_; clear hb hbox hg; have hcz26_0 : w25.cell? ⟨gb186, 0, none⟩ = some (.string a0_0) := (blk_cell BK186.out 0).trans rfl; have hcz26_1 : w25.cell? ⟨gb186, 1, none⟩ = some (.string a0_1) := (blk_cell BK186.out 1).trans rfl; have hcz26_2 : w25.cell? ⟨gb186, 2, none⟩ = some (.int .i64 a0_2) := (blk_cell BK186.out 2).trans rfl; have hcz26_3 : w25.cell? ⟨gb186, 3, none⟩ = some (.int .i64 a0_3) := (blk_cell BK186.out 3).trans rfl; have hcz26_4 : w25.cell? ⟨gb186, 4, none⟩ = some (.bool true) := (blk_cell BK186.out 4).trans rfl; have hcz26_5 : w25.cell? ⟨gb186, 5, none⟩ = some (.bool false) := (blk_cell BK186.out 5).trans rfl; have hfz26_0 := blk_frozen BK186.out 0; have hfz26_1 := blk_frozen BK186.out 1; have hfz26_2 := blk_frozen BK186.out 2; have hfz26_3 := blk_frozen BK186.out 3; have hfz26_4 := blk_frozen BK186.out 4; have hfz26_5 := blk_frozen BK186.out 5))
            have n0_ := Aside0.mk (blk_drew BK186.out)
            have n1_ := Aside0.mk (below_drew1 HB.out)
            clear BK186
            clear HB
            have BK186 := n0_
            have HB := n1_
            clear n0_ n1_
            refine start_ (n := 15) (S := fun w' => w'.cell? ⟨gb186, 0, none⟩ = some (.string a0_0) ∧ w'.cell? ⟨gb186, 1, none⟩ = some (.string a0_1) ∧ w'.cell? ⟨gb186, 2, none⟩ = some (.int .i64 a0_2) ∧ w'.cell? ⟨gb186, 3, none⟩ = some (.int .i64 a0_3) ∧ w'.cell? ⟨gb186, 4, none⟩ = some (.bool true) ∧ w'.cell? ⟨gb186, 5, none⟩ = some (.bool false)) (ds := []) #[false, false, false, false, false, false, false, false, false, false, false, false, false, false, false] (by kernel_rfl) rfl rfl ⟨(blk_cell BK186.out 0).trans rfl, (blk_cell BK186.out 1).trans rfl, (blk_cell BK186.out 2).trans rfl, (blk_cell BK186.out 3).trans rfl, (blk_cell BK186.out 4).trans rfl, (blk_cell BK186.out 5).trans rfl⟩ (fun hHeld => ?_); refine with_tabW addr_cell.tab6 addr_cell.bits6 (fun HT_ HW_ => ?_)
            generalize w25.drew = w27 at BK186 HB hHeld ⊢
            refine pure_ (i := 0) (N := some 9) (v := ?_) (a' := ?_) #[true, false, false, false, false, false, false, false, false, false, false, false, false, false, false] rfl rfl (any_of HT_.out (by kernel_rfl)) (fun _ _ _ h => h) (Or.inl ⟨by rfl, ?_⟩) ?_ ?_
            rotate_left
            · intro w'
              go_simp
              with_reducible rfl
            rotate_left
            · simp only [Act.put, List.setIfInBounds_toArray, List.set_cons_zero, List.set_cons_succ, i64_w, i32_w]
              rfl
            refine pure_ (i := 1) (N := some 10) (v := ?_) (a' := ?_) #[true, true, false, false, false, false, false, false, false, false, false, false, false, false, false] rfl rfl (any_of HT_.out (by kernel_rfl)) (fun _ _ _ h => h) (Or.inl ⟨by rfl, ?_⟩) ?_ ?_
            rotate_left
            · intro w'
              go_simp
              with_reducible rfl
            rotate_left
            · simp only [Act.put, List.setIfInBounds_toArray, List.set_cons_zero, List.set_cons_succ, i64_w, i32_w]
              rfl
            refine pure_ (i := 8) (N := some 17) (v := ?_) (a' := ?_) #[true, true, false, false, false, false, false, false, true, false, false, false, false, false, false] rfl rfl (any_of HT_.out (by kernel_rfl)) (fun _ _ _ h => h) (Or.inl ⟨by rfl, ?_⟩) ?_ ?_
            rotate_left
            · intro w'
              go_simp
              with_reducible rfl
            rotate_left
            · simp only [Act.put, List.setIfInBounds_toArray, List.set_cons_zero, List.set_cons_succ, i64_w, i32_w]
              rfl
            refine pure_ (i := 10) (N := some 19) (v := ?_) (a' := ?_) #[true, true, false, false, false, false, false, false, true, false, true, false, false, false, false] rfl rfl (any_of HT_.out (by kernel_rfl)) (fun _ _ _ h => h) (Or.inl ⟨by rfl, ?_⟩) ?_ ?_
            rotate_left
            · intro w'
              go_simp
              with_reducible rfl
            rotate_left
            · simp only [Act.put, List.setIfInBounds_toArray, List.set_cons_zero, List.set_cons_succ, i64_w, i32_w]
              rfl
            refine take_ (i := 2) (N := some 11) (v := ?_) (a' := ?_) #[true, true, true, false, false, false, false, false, true, false, true, false, false, false, false] rfl rfl (take_ofW HT_.out HW_.out (by kernel_rfl)) (fun _ _ _ h => h) (Or.inl ⟨by rfl, ?_⟩) hHeld ?_ ?_
            rotate_left
            · rintro w' ⟨s0, s1, s2, s3, s4, s5⟩
              go_simp
              with_reducible rfl
            rotate_left
            · simp only [Act.put, List.setIfInBounds_toArray, List.set_cons_zero, List.set_cons_succ, i64_w, i32_w]
              rfl
            refine pure_ (i := 3) (N := some 12) (v := ?_) (a' := ?_) #[true, true, true, true, false, false, false, false, true, false, true, false, false, false, false] rfl rfl (any_of HT_.out (by kernel_rfl)) (fun _ _ _ h => h) (Or.inl ⟨by rfl, ?_⟩) ?_ ?_
            rotate_left
            · intro w'
              go_simp
              with_reducible rfl
            rotate_left
            · simp only [Act.put, List.setIfInBounds_toArray, List.set_cons_zero, List.set_cons_succ, i64_w, i32_w]
              rfl
            refine pure_ (i := 4) (N := some 13) (v := ?_) (a' := ?_) #[true, true, true, true, true, false, false, false, true, false, true, false, false, false, false] rfl rfl (any_of HT_.out (by kernel_rfl)) (fun _ _ _ h => h) (Or.inl ⟨by rfl, ?_⟩) ?_ ?_
            rotate_left
            · intro w'
              go_simp
              with_reducible rfl
            rotate_left
            · simp only [Act.put, List.setIfInBounds_toArray, List.set_cons_zero, List.set_cons_succ, i64_w, i32_w]
              rfl
            refine pure_ (i := 5) (N := some 14) (v := ?_) (a' := ?_) #[true, true, true, true, true, true, false, false, true, false, true, false, false, false, false] rfl rfl (any_of HT_.out (by kernel_rfl)) (fun _ _ _ h => h) (Or.inl ⟨by rfl, ?_⟩) ?_ ?_
            rotate_left
            · intro w'
              go_simp
              with_reducible rfl
            rotate_left
            · simp only [Act.put, List.setIfInBounds_toArray, List.set_cons_zero, List.set_cons_succ, i64_w, i32_w]
              rfl
            refine pure_ (i := 6) (N := some 15) (v := ?_) (a' := ?_) #[true, true, true, true, true, true, true, false, true, false, true, false, false, false, false] rfl rfl (any_of HT_.out (by kernel_rfl)) (fun _ _ _ h => h) (Or.inl ⟨by rfl, ?_⟩) ?_ ?_
            rotate_left
            · intro w'
              go_simp
              with_reducible rfl
            rotate_left
            · simp only [Act.put, List.setIfInBounds_toArray, List.set_cons_zero, List.set_cons_succ, i64_w, i32_w]
              rfl
            refine pure_ (i := 7) (N := some 16) (v := ?_) (a' := ?_) #[true, true, true, true, true, true, true, true, true, false, true, false, false, false, false] rfl rfl (any_of HT_.out (by kernel_rfl)) (fun _ _ _ h => h) (Or.inl ⟨by rfl, ?_⟩) ?_ ?_
            rotate_left
            · intro w'
              go_simp
              with_reducible rfl
            rotate_left
            · simp only [Act.put, List.setIfInBounds_toArray, List.set_cons_zero, List.set_cons_succ, i64_w, i32_w]
              rfl
            refine pure_ (i := 9) (N := some 18) (v := ?_) (a' := ?_) #[true, true, true, true, true, true, true, true, true, true, true, false, false, false, false] rfl rfl (any_of HT_.out (by kernel_rfl)) (fun _ _ _ h => h) (Or.inl ⟨by rfl, ?_⟩) ?_ ?_
            rotate_left
            · intro w'
              go_simp
              with_reducible rfl
            rotate_left
            · simp only [Act.put, List.setIfInBounds_toArray, List.set_cons_zero, List.set_cons_succ, i64_w, i32_w]
              rfl
            refine take_ (i := 11) (N := some 20) (v := ?_) (a' := ?_) #[true, true, true, true, true, true, true, true, true, true, true, true, false, false, false] rfl rfl (take_ofW HT_.out HW_.out (by kernel_rfl)) (fun _ _ _ h => h) (Or.inl ⟨by rfl, ?_⟩) hHeld ?_ ?_
            rotate_left
            · rintro w' ⟨s0, s1, s2, s3, s4, s5⟩
              go_simp
              with_reducible rfl
            rotate_left
            · simp only [Act.put, List.setIfInBounds_toArray, List.set_cons_zero, List.set_cons_succ, i64_w, i32_w]
              rfl
            refine one_ (i := 12) (N := some 21) #[true, true, true, true, true, true, true, true, true, true, true, true, true, false, false] rfl rfl (one_of HT_.out (by kernel_rfl)) (by decide) (fun K hK => ?_)
            refine goes_ Tryd.func47 (by kernel_rfl) rfl #[.int .i64 a0_2] (by rfl) rfl rfl (by (try simp only [List.map_toArray, List.map_cons, List.map_nil]); first | done | rfl | (simp only [List.length_drop, List.length_take]; rfl)) ?_
            with_reducible refine (addr_decimal.calls k a0_2 t189 _ A23.out).mono ?_
            rintro e w28 ⟨rfl, hb⟩
            refine ⟨_, rfl, ?_⟩
            have n0_ := Aside0.mk (blk_below (g := gb186) (o := .cells #[.string a0_0, .string a0_1, .int .i64 a0_2, .int .i64 a0_3, .bool true, .bool false] 23 (0, 0)) (by (with_reducible repeat (first | refine blk_drewN ?_ _ | refine blk_drew ?_ | refine blk_alloc ?_ _)); exact BK186.out) hb)
            have n1_ := Aside0.mk (below_step (by (repeat (first | (with_reducible first | exact HB.out | apply below_alloc | apply pw_below_drewN | apply below_drew1 | refine below_set ?_ GE186.out) | exact HB.out))) hb)
            clear BK186
            clear HB
            have BK186 := n0_
            have HB := n1_
            clear n0_ n1_
            (try clear hb)
            (try clear hb2)
            (try clear hk)
            (try clear hi)
            refine hK.out _ _ ⟨(blk_cell BK186.out 0).trans rfl, (blk_cell BK186.out 1).trans rfl, (blk_cell BK186.out 2).trans rfl, (blk_cell BK186.out 3).trans rfl, (blk_cell BK186.out 4).trans rfl, (blk_cell BK186.out 5).trans rfl⟩ (fun hHeld => ?_)
            clear hK K
            refine norm_ (a' := ?_) ?_ ?_
            rotate_left
            · show Act.put _ (some 21) _ = _
              simp only [Act.put, List.setIfInBounds_toArray, List.set_cons_zero, List.set_cons_succ, i64_w, i32_w]
              rfl
            refine pure_ (i := 13) (N := some 22) (v := ?_) (a' := ?_) #[true, true, true, true, true, true, true, true, true, true, true, true, true, true, false] rfl rfl (any_of HT_.out (by kernel_rfl)) (fun _ _ _ h => h) (Or.inl ⟨by rfl, ?_⟩) ?_ ?_
            rotate_left
            · intro w'
              go_simp
              with_reducible rfl
            rotate_left
            · simp only [Act.put, List.setIfInBounds_toArray, List.set_cons_zero, List.set_cons_succ, i64_w, i32_w]
              rfl
            refine pure_ (i := 14) (N := some 2) (v := ?_) (a' := ?_) #[true, true, true, true, true, true, true, true, true, true, true, true, true, true, true] rfl rfl (any_of HT_.out (by kernel_rfl)) (fun _ _ _ h => h) (Or.inl ⟨by rfl, ?_⟩) ?_ ?_
            rotate_left
            · intro w'
              go_simp
              with_reducible rfl
            rotate_left
            · simp only [Act.put, List.setIfInBounds_toArray, List.set_cons_zero, List.set_cons_succ, i64_w, i32_w]
              rfl
            refine done_ (done_of HT_.out (by kernel_rfl)) ?_
            try go_wp2
            go_ret
            exact ⟨by first | rfl | (simp [errW_none, errW_some] <;> rfl) | (simp [*, errW_none, errW_some] <;> rfl), by (repeat (first | (with_reducible first | exact HB.out | apply below_alloc | apply pw_below_drewN | apply below_drew1 | refine below_set ?_ GE186.out) | exact HB.out))⟩
          · rw [if_neg c24] at H
            exact absurd H (by simp)
        · rw [if_neg c22] at H
          exact absurd H (by simp)
      · rw [if_neg c21] at H
        exact absurd H (by simp)
    · replace c20 := Bool.eq_false_iff.mpr c20
      subst c20
      have H1 : (if 0 + (Utf8.encode (wrap32 (wrap64 ((wrap64 (65 + a0_3)) - 1)))).size ≤ 9223372036854775807 then (if ((⟨#[]⟩ : ByteArray) ++ (Utf8.encode (wrap32 (wrap64 ((wrap64 (65 + a0_3)) - 1))))).size + 0 ≤ 9223372036854775807 then ((addr_decimal.f k a0_2).bind fun t190 => (if (((⟨#[]⟩ : ByteArray) ++ (Utf8.encode (wrap32 (wrap64 ((wrap64 (65 + a0_3)) - 1))))) ++ (⟨#[]⟩ : ByteArray)).size + t190.size ≤ 9223372036854775807 then (some ((((⟨#[]⟩ : ByteArray) ++ (Utf8.encode (wrap32 (wrap64 ((wrap64 (65 + a0_3)) - 1))))) ++ (⟨#[]⟩ : ByteArray)) ++ t190)) else (none))) else (none)) else (none)) = some r := by rw [if_neg (show ¬ (false = true) by decide)] at H; exact H
      clear H
      have H := H1
      clear H1
      by_cases c29 : 0 + (Utf8.encode (wrap32 (wrap64 ((wrap64 (65 + a0_3)) - 1)))).size ≤ 9223372036854775807
      · rw [if_pos c29] at H
        have c29b0 := eq_true c29
        have c29b1 : decide (0 + (Utf8.encode (wrap32 (wrap64 ((wrap64 (65 + a0_3)) - 1)))).size ≤ 9223372036854775807) = true := decide_eq_true c29
        try have c29b2 : (9223372036854775807 < 0 + (Utf8.encode (wrap32 (wrap64 ((wrap64 (65 + a0_3)) - 1)))).size) = False := eq_false (Nat.not_lt.2 c29)
        try (have c29b3 := c29; simp only [ByteArray.size_append, Nat.add_zero, Nat.zero_add] at c29b3; have c29b4 := eq_true c29b3; have c29b5 := eq_false (Nat.not_lt.2 c29b3))
        by_cases c30 : ((⟨#[]⟩ : ByteArray) ++ (Utf8.encode (wrap32 (wrap64 ((wrap64 (65 + a0_3)) - 1))))).size + 0 ≤ 9223372036854775807
        · rw [if_pos c30] at H
          have c30b0 := eq_true c30
          have c30b1 : decide (((⟨#[]⟩ : ByteArray) ++ (Utf8.encode (wrap32 (wrap64 ((wrap64 (65 + a0_3)) - 1))))).size + 0 ≤ 9223372036854775807) = true := decide_eq_true c30
          try have c30b2 : (9223372036854775807 < ((⟨#[]⟩ : ByteArray) ++ (Utf8.encode (wrap32 (wrap64 ((wrap64 (65 + a0_3)) - 1))))).size + 0) = False := eq_false (Nat.not_lt.2 c30)
          try (have c30b3 := c30; simp only [ByteArray.size_append, Nat.add_zero, Nat.zero_add, show (⟨#[]⟩ : ByteArray).size = 0 from rfl] at c30b3; have c30b4 := eq_true c30b3; have c30b5 := eq_false (Nat.not_lt.2 c30b3))
          replace H := Option.bind_eq_some_iff.mp H
          obtain ⟨t190, A310, H⟩ := H
          replace H : (if (((⟨#[]⟩ : ByteArray) ++ (Utf8.encode (wrap32 (wrap64 ((wrap64 (65 + a0_3)) - 1))))) ++ (⟨#[]⟩ : ByteArray)).size + t190.size ≤ 9223372036854775807 then (some ((((⟨#[]⟩ : ByteArray) ++ (Utf8.encode (wrap32 (wrap64 ((wrap64 (65 + a0_3)) - 1))))) ++ (⟨#[]⟩ : ByteArray)) ++ t190)) else (none)) = some r := H
          have A31 := Aside0.mk A310
          clear A310
          by_cases c32 : (((⟨#[]⟩ : ByteArray) ++ (Utf8.encode (wrap32 (wrap64 ((wrap64 (65 + a0_3)) - 1))))) ++ (⟨#[]⟩ : ByteArray)).size + t190.size ≤ 9223372036854775807
          · rw [if_pos c32] at H
            have c32b0 := eq_true c32
            have c32b1 : decide ((((⟨#[]⟩ : ByteArray) ++ (Utf8.encode (wrap32 (wrap64 ((wrap64 (65 + a0_3)) - 1))))) ++ (⟨#[]⟩ : ByteArray)).size + t190.size ≤ 9223372036854775807) = true := decide_eq_true c32
            try have c32b2 : (9223372036854775807 < (((⟨#[]⟩ : ByteArray) ++ (Utf8.encode (wrap32 (wrap64 ((wrap64 (65 + a0_3)) - 1))))) ++ (⟨#[]⟩ : ByteArray)).size + t190.size) = False := eq_false (Nat.not_lt.2 c32)
            try (have c32b3 := c32; simp only [ByteArray.size_append, Nat.add_zero, Nat.zero_add, show (⟨#[]⟩ : ByteArray).size = 0 from rfl] at c32b3; have c32b4 := eq_true c32b3; have c32b5 := eq_false (Nat.not_lt.2 c32b3))
            obtain rfl := Option.some.inj H
            go_enter Tryd.func42, Tryd.ntmps42
            try go_wp2_with (first | ((with_reducible refine gate_dst (N := 1) rfl ?_); refine box_event ?hg (N := 1) ?hd (cs := #[.string a0_0, .string a0_1, .int .i64 a0_2, .int .i64 a0_3, .bool false, .bool false]) (t := 23) ?hr ?_; (case hd => rfl); (case hg => rfl); (case hr => first | (go_simp; done) | (go_simp; rfl)); intro gb186 hg w33 hbox hb; have n0_ := Aside0.mk (below_step (by (repeat (first | (with_reducible first | exact HB.out | apply below_alloc | apply pw_below_drewN | apply below_drew1) | exact HB.out))) hb); have n1_ := Aside0.mk (hbox); have n2_ := Aside0.mk ((by rw [hg]; exact (below_size (by (repeat (first | (with_reducible first | exact HB.out | apply below_alloc | apply pw_below_drewN | apply below_drew1) | exact HB.out)))) : w.heap.size ≤ gb186)); have n3_ := Aside0.mk ((by rw [hg]; exact (below_size (by (repeat (first | (with_reducible first | exact HB.out | apply below_alloc | apply pw_below_drewN | apply below_drew1) | exact HB.out)))) : w.heap.size ≤ gb186)); clear HB; have HB := n0_; have BK186 := n1_; have GW186 := n2_; have GE186 := n3_; clear n0_ n1_ n2_ n3_; clear hb hbox hg; have hcz34_0 : w33.cell? ⟨gb186, 0, none⟩ = some (.string a0_0) := (blk_cell BK186.out 0).trans rfl; have hcz34_1 : w33.cell? ⟨gb186, 1, none⟩ = some (.string a0_1) := (blk_cell BK186.out 1).trans rfl; have hcz34_2 : w33.cell? ⟨gb186, 2, none⟩ = some (.int .i64 a0_2) := (blk_cell BK186.out 2).trans rfl; have hcz34_3 : w33.cell? ⟨gb186, 3, none⟩ = some (.int .i64 a0_3) := (blk_cell BK186.out 3).trans rfl; have hcz34_4 : w33.cell? ⟨gb186, 4, none⟩ = some (.bool false) := (blk_cell BK186.out 4).trans rfl; have hcz34_5 : w33.cell? ⟨gb186, 5, none⟩ = some (.bool false) := (blk_cell BK186.out 5).trans rfl; have hfz34_0 := blk_frozen BK186.out 0; have hfz34_1 := blk_frozen BK186.out 1; have hfz34_2 := blk_frozen BK186.out 2; have hfz34_3 := blk_frozen BK186.out 3; have hfz34_4 := blk_frozen BK186.out 4; have hfz34_5 := blk_frozen BK186.out 5))
            have n0_ := Aside0.mk (blk_drew BK186.out)
            have n1_ := Aside0.mk (below_drew1 HB.out)
            clear BK186
            clear HB
            have BK186 := n0_
            have HB := n1_
            clear n0_ n1_
            refine start_ (n := 15) (S := fun w' => w'.cell? ⟨gb186, 0, none⟩ = some (.string a0_0) ∧ w'.cell? ⟨gb186, 1, none⟩ = some (.string a0_1) ∧ w'.cell? ⟨gb186, 2, none⟩ = some (.int .i64 a0_2) ∧ w'.cell? ⟨gb186, 3, none⟩ = some (.int .i64 a0_3) ∧ w'.cell? ⟨gb186, 4, none⟩ = some (.bool false) ∧ w'.cell? ⟨gb186, 5, none⟩ = some (.bool false)) (ds := []) #[false, false, false, false, false, false, false, false, false, false, false, false, false, false, false] (by kernel_rfl) rfl rfl ⟨(blk_cell BK186.out 0).trans rfl, (blk_cell BK186.out 1).trans rfl, (blk_cell BK186.out 2).trans rfl, (blk_cell BK186.out 3).trans rfl, (blk_cell BK186.out 4).trans rfl, (blk_cell BK186.out 5).trans rfl⟩ (fun hHeld => ?_); refine with_tabW addr_cell.tab6 addr_cell.bits6 (fun HT_ HW_ => ?_)
            generalize w33.drew = w35 at BK186 HB hHeld ⊢
            refine pure_ (i := 0) (N := some 9) (v := ?_) (a' := ?_) #[true, false, false, false, false, false, false, false, false, false, false, false, false, false, false] rfl rfl (any_of HT_.out (by kernel_rfl)) (fun _ _ _ h => h) (Or.inl ⟨by rfl, ?_⟩) ?_ ?_
            rotate_left
            · intro w'
              go_simp
              with_reducible rfl
            rotate_left
            · simp only [Act.put, List.setIfInBounds_toArray, List.set_cons_zero, List.set_cons_succ, i64_w, i32_w]
              rfl
            refine pure_ (i := 1) (N := some 10) (v := ?_) (a' := ?_) #[true, true, false, false, false, false, false, false, false, false, false, false, false, false, false] rfl rfl (any_of HT_.out (by kernel_rfl)) (fun _ _ _ h => h) (Or.inl ⟨by rfl, ?_⟩) ?_ ?_
            rotate_left
            · intro w'
              go_simp
              with_reducible rfl
            rotate_left
            · simp only [Act.put, List.setIfInBounds_toArray, List.set_cons_zero, List.set_cons_succ, i64_w, i32_w]
              rfl
            refine pure_ (i := 8) (N := some 17) (v := ?_) (a' := ?_) #[true, true, false, false, false, false, false, false, true, false, false, false, false, false, false] rfl rfl (any_of HT_.out (by kernel_rfl)) (fun _ _ _ h => h) (Or.inl ⟨by rfl, ?_⟩) ?_ ?_
            rotate_left
            · intro w'
              go_simp
              with_reducible rfl
            rotate_left
            · simp only [Act.put, List.setIfInBounds_toArray, List.set_cons_zero, List.set_cons_succ, i64_w, i32_w]
              rfl
            refine pure_ (i := 10) (N := some 19) (v := ?_) (a' := ?_) #[true, true, false, false, false, false, false, false, true, false, true, false, false, false, false] rfl rfl (any_of HT_.out (by kernel_rfl)) (fun _ _ _ h => h) (Or.inl ⟨by rfl, ?_⟩) ?_ ?_
            rotate_left
            · intro w'
              go_simp
              with_reducible rfl
            rotate_left
            · simp only [Act.put, List.setIfInBounds_toArray, List.set_cons_zero, List.set_cons_succ, i64_w, i32_w]
              rfl
            refine take_ (i := 2) (N := some 11) (v := ?_) (a' := ?_) #[true, true, true, false, false, false, false, false, true, false, true, false, false, false, false] rfl rfl (take_ofW HT_.out HW_.out (by kernel_rfl)) (fun _ _ _ h => h) (Or.inl ⟨by rfl, ?_⟩) hHeld ?_ ?_
            rotate_left
            · rintro w' ⟨s0, s1, s2, s3, s4, s5⟩
              go_simp
              with_reducible rfl
            rotate_left
            · simp only [Act.put, List.setIfInBounds_toArray, List.set_cons_zero, List.set_cons_succ, i64_w, i32_w]
              rfl
            refine pure_ (i := 3) (N := some 12) (v := ?_) (a' := ?_) #[true, true, true, true, false, false, false, false, true, false, true, false, false, false, false] rfl rfl (any_of HT_.out (by kernel_rfl)) (fun _ _ _ h => h) (Or.inl ⟨by rfl, ?_⟩) ?_ ?_
            rotate_left
            · intro w'
              go_simp
              with_reducible rfl
            rotate_left
            · simp only [Act.put, List.setIfInBounds_toArray, List.set_cons_zero, List.set_cons_succ, i64_w, i32_w]
              rfl
            refine pure_ (i := 4) (N := some 13) (v := ?_) (a' := ?_) #[true, true, true, true, true, false, false, false, true, false, true, false, false, false, false] rfl rfl (any_of HT_.out (by kernel_rfl)) (fun _ _ _ h => h) (Or.inl ⟨by rfl, ?_⟩) ?_ ?_
            rotate_left
            · intro w'
              go_simp
              with_reducible rfl
            rotate_left
            · simp only [Act.put, List.setIfInBounds_toArray, List.set_cons_zero, List.set_cons_succ, i64_w, i32_w]
              rfl
            refine pure_ (i := 5) (N := some 14) (v := ?_) (a' := ?_) #[true, true, true, true, true, true, false, false, true, false, true, false, false, false, false] rfl rfl (any_of HT_.out (by kernel_rfl)) (fun _ _ _ h => h) (Or.inl ⟨by rfl, ?_⟩) ?_ ?_
            rotate_left
            · intro w'
              go_simp
              with_reducible rfl
            rotate_left
            · simp only [Act.put, List.setIfInBounds_toArray, List.set_cons_zero, List.set_cons_succ, i64_w, i32_w]
              rfl
            refine pure_ (i := 6) (N := some 15) (v := ?_) (a' := ?_) #[true, true, true, true, true, true, true, false, true, false, true, false, false, false, false] rfl rfl (any_of HT_.out (by kernel_rfl)) (fun _ _ _ h => h) (Or.inl ⟨by rfl, ?_⟩) ?_ ?_
            rotate_left
            · intro w'
              go_simp
              with_reducible rfl
            rotate_left
            · simp only [Act.put, List.setIfInBounds_toArray, List.set_cons_zero, List.set_cons_succ, i64_w, i32_w]
              rfl
            refine pure_ (i := 7) (N := some 16) (v := ?_) (a' := ?_) #[true, true, true, true, true, true, true, true, true, false, true, false, false, false, false] rfl rfl (any_of HT_.out (by kernel_rfl)) (fun _ _ _ h => h) (Or.inl ⟨by rfl, ?_⟩) ?_ ?_
            rotate_left
            · intro w'
              go_simp
              with_reducible rfl
            rotate_left
            · simp only [Act.put, List.setIfInBounds_toArray, List.set_cons_zero, List.set_cons_succ, i64_w, i32_w]
              rfl
            refine pure_ (i := 9) (N := some 18) (v := ?_) (a' := ?_) #[true, true, true, true, true, true, true, true, true, true, true, false, false, false, false] rfl rfl (any_of HT_.out (by kernel_rfl)) (fun _ _ _ h => h) (Or.inl ⟨by rfl, ?_⟩) ?_ ?_
            rotate_left
            · intro w'
              go_simp
              with_reducible rfl
            rotate_left
            · simp only [Act.put, List.setIfInBounds_toArray, List.set_cons_zero, List.set_cons_succ, i64_w, i32_w]
              rfl
            refine take_ (i := 11) (N := some 20) (v := ?_) (a' := ?_) #[true, true, true, true, true, true, true, true, true, true, true, true, false, false, false] rfl rfl (take_ofW HT_.out HW_.out (by kernel_rfl)) (fun _ _ _ h => h) (Or.inl ⟨by rfl, ?_⟩) hHeld ?_ ?_
            rotate_left
            · rintro w' ⟨s0, s1, s2, s3, s4, s5⟩
              go_simp
              with_reducible rfl
            rotate_left
            · simp only [Act.put, List.setIfInBounds_toArray, List.set_cons_zero, List.set_cons_succ, i64_w, i32_w]
              rfl
            refine one_ (i := 12) (N := some 21) #[true, true, true, true, true, true, true, true, true, true, true, true, true, false, false] rfl rfl (one_of HT_.out (by kernel_rfl)) (by decide) (fun K hK => ?_)
            refine goes_ Tryd.func47 (by kernel_rfl) rfl #[.int .i64 a0_2] (by rfl) rfl rfl (by (try simp only [List.map_toArray, List.map_cons, List.map_nil]); first | done | rfl | (simp only [List.length_drop, List.length_take]; rfl)) ?_
            with_reducible refine (addr_decimal.calls k a0_2 t190 _ A31.out).mono ?_
            rintro e w36 ⟨rfl, hb⟩
            refine ⟨_, rfl, ?_⟩
            have n0_ := Aside0.mk (blk_below (g := gb186) (o := .cells #[.string a0_0, .string a0_1, .int .i64 a0_2, .int .i64 a0_3, .bool false, .bool false] 23 (0, 0)) (by (with_reducible repeat (first | refine blk_drewN ?_ _ | refine blk_drew ?_ | refine blk_alloc ?_ _)); exact BK186.out) hb)
            have n1_ := Aside0.mk (below_step (by (repeat (first | (with_reducible first | exact HB.out | apply below_alloc | apply pw_below_drewN | apply below_drew1 | refine below_set ?_ GE186.out) | exact HB.out))) hb)
            clear BK186
            clear HB
            have BK186 := n0_
            have HB := n1_
            clear n0_ n1_
            (try clear hb)
            (try clear hb2)
            (try clear hk)
            (try clear hi)
            refine hK.out _ _ ⟨(blk_cell BK186.out 0).trans rfl, (blk_cell BK186.out 1).trans rfl, (blk_cell BK186.out 2).trans rfl, (blk_cell BK186.out 3).trans rfl, (blk_cell BK186.out 4).trans rfl, (blk_cell BK186.out 5).trans rfl⟩ (fun hHeld => ?_)
            clear hK K
            refine norm_ (a' := ?_) ?_ ?_
            rotate_left
            · show Act.put _ (some 21) _ = _
              simp only [Act.put, List.setIfInBounds_toArray, List.set_cons_zero, List.set_cons_succ, i64_w, i32_w]
              rfl
            refine pure_ (i := 13) (N := some 22) (v := ?_) (a' := ?_) #[true, true, true, true, true, true, true, true, true, true, true, true, true, true, false] rfl rfl (any_of HT_.out (by kernel_rfl)) (fun _ _ _ h => h) (Or.inl ⟨by rfl, ?_⟩) ?_ ?_
            rotate_left
            · intro w'
              go_simp
              with_reducible rfl
            rotate_left
            · simp only [Act.put, List.setIfInBounds_toArray, List.set_cons_zero, List.set_cons_succ, i64_w, i32_w]
              rfl
            refine pure_ (i := 14) (N := some 2) (v := ?_) (a' := ?_) #[true, true, true, true, true, true, true, true, true, true, true, true, true, true, true] rfl rfl (any_of HT_.out (by kernel_rfl)) (fun _ _ _ h => h) (Or.inl ⟨by rfl, ?_⟩) ?_ ?_
            rotate_left
            · intro w'
              go_simp
              with_reducible rfl
            rotate_left
            · simp only [Act.put, List.setIfInBounds_toArray, List.set_cons_zero, List.set_cons_succ, i64_w, i32_w]
              rfl
            refine done_ (done_of HT_.out (by kernel_rfl)) ?_
            try go_wp2
            go_ret
            exact ⟨by first | rfl | (simp [errW_none, errW_some] <;> rfl) | (simp [*, errW_none, errW_some] <;> rfl), by (repeat (first | (with_reducible first | exact HB.out | apply below_alloc | apply pw_below_drewN | apply below_drew1 | refine below_set ?_ GE186.out) | exact HB.out))⟩
          · rw [if_neg c32] at H
            exact absurd H (by simp)
        · rw [if_neg c30] at H
          exact absurd H (by simp)
      · rw [if_neg c29] at H
        exact absurd H (by simp)

end Go.Proofs.YtbpckmbepgojfaaDoor.P
