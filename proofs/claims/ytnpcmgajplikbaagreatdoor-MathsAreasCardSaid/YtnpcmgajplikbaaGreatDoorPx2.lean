-- Written by a program of this session (wip/tools/xprint.py), out of the seat's translation. Not trusted: Lean checks it.
import Derived.Test.YtnpcmgajplikbaaGreatDoorPx0
import Derived.Test.YtnpcmgajplikbaaGreatDoorPx1
namespace Go.Proofs.YtnpcmgajplikbaaGreatDoor.P
open Go.RowKit Go.Proofs.YtnpcmgajplikbaaGreatDoorW.PrintWords Go.Proofs.YtnpcmgajplikbaaGreatDoorW.PrintLast Go.Proofs.YtnpcmgajplikbaaGreatDoorW.PrintMore
attribute [local go_sem] max2_int min2_int max_two min_two max_three min_three max_four min_four X.binOp_str_gtr X.binOp_str_leq   -- for this text's walks alone
set_option linter.unusedVariables false
set_option linter.unusedSimpArgs false

/-! ### num_count: function 135 -/
def num_count.f (a0 : ByteArray) (a1 : Int) (a2 : Int) : Option (Int × Bool) := some (match X.cntf a0.data.toList 0 with | none => (0, false) | some n => (n, decide (a1 ≤ (a0.size : Int)) && decide ((a0.size : Int) ≤ a2)))
set_option maxHeartbeats 8000000 in
set_option maxRecDepth 1000000 in
theorem num_count.calls (a0 : ByteArray) (a1 : Int) (a2 : Int) (r1 : Int) (r2 : Bool) (w : World) (h : num_count.f a0 a1 a2 = some (r1, r2)) :
    Calls Tryz.prog 135 #[.string a0, .int .i64 a1, .int .i64 a2] w fun e w' => e = .returned (.tuple #[.int .i64 r1, .bool r2]) ∧ Below w.heap.size w w' := by
  have HR := Aside0.mk h
  clear h
  go_enter Tryz.func135, Tryz.ntmps135
  go_wp2
  go_loopw [8] (fun v8 w' => ∃ (pos : Nat) (n : Int), w' = w.iter a0 pos ∧ v8 = .int .i64 n ∧ Aside0 (0 ≤ n ∧ n ≤ 1125899906842624) ∧ Aside0 (X.cntf (a0.data.toList.drop pos) n = X.cntf a0.data.toList 0)) (fun _ w' => a0.size - w'.iterPos w.heap.size)
  case atStart => exact ⟨0, 0, rfl, rfl, ⟨by omega, by omega⟩, ⟨rfl⟩⟩
  case round =>
    obtain ⟨pos, n, rfl, rfl, HN, HC⟩ := hrel
    have n0 := HN.out.1
    have n1 := HN.out.2
    by_cases hp : pos < a0.size
    · have hd := HC.out
      rw [X.drop_get a0 pos hp] at hd
      simp only [X.cntf] at hd
      have hlt := (a0[pos]'hp).toNat_lt
      by_cases hc : (a0[pos]'hp).toNat < 128
      · have hnx : ∀ ty, (Instr.next (.pointer (some ⟨w.heap.size, 0, none⟩)) true ty).run Tryz.prog (w.iter a0 pos) = _ := fun ty => run_next_ascii w a0 pos ty hp hc
        generalize hg : ((a0[pos]'hp).toNat : Int) = c at *
        have hc2 : c < 128 := by omega
        have hc0 : 0 ≤ c := by omega
        clear hlt hc
        by_cases b1 : c < 48
        · rw [if_pos (.inl b1)] at hd
          have b1b : decide (c < 48) = true := decide_eq_true b1
          have hr := HR.out
          unfold num_count.f at hr
          rw [← hd] at hr
          simp only [Option.some.injEq, Prod.mk.injEq] at hr
          have Hr := Aside0.mk hr
          clear hr hd b1
          clear hg
          go_wp2
          go_ret2
          exact ⟨by rw [← Hr.out.1, ← Hr.out.2]; rfl, X.below_iter (Below.refl _ _) (Nat.le_refl _) _ _⟩
        · have b1b : decide (c < 48) = false := decide_eq_false b1
          by_cases b2 : 57 < c
          · rw [if_pos (.inr b2)] at hd
            have b2b : decide (57 < c) = true := decide_eq_true b2
            have hr := HR.out
            unfold num_count.f at hr
            rw [← hd] at hr
            simp only [Option.some.injEq, Prod.mk.injEq] at hr
            have Hr := Aside0.mk hr
            clear hr hd b1 b2
            clear hg
            go_wp2
            go_ret2
            exact ⟨by rw [← Hr.out.1, ← Hr.out.2]; rfl, X.below_iter (Below.refl _ _) (Nat.le_refl _) _ _⟩
          · have b2b : decide (57 < c) = false := decide_eq_false b2
            rw [if_neg (by omega)] at hd
            have b3 : 48 ≤ c := by omega
            have b4 : c ≤ 57 := by omega
            by_cases b5 : 10 * n + (c - 48) > 1125899906842624
            · rw [if_pos b5] at hd
              have b5b : decide (1125899906842624 < 10 * n + (c - 48)) = true := decide_eq_true b5
              have Hd := Aside0.mk hd
              clear hd b5 hg b1 b2
              go_wp2
              go_roundw
              case rel => exact ⟨pos + 1, _, rfl, rfl, ⟨by omega, by omega⟩, Hd⟩
              case measure => simp; omega
            · rw [if_neg b5] at hd
              have b5b : decide (1125899906842624 < 10 * n + (c - 48)) = false := decide_eq_false b5
              have Hd := Aside0.mk hd
              have b6 : 10 * n + (c - 48) ≤ 1125899906842624 := by omega
              clear hd b5 hg b1 b2
              go_wp2
              go_roundw
              case rel => exact ⟨pos + 1, _, rfl, rfl, ⟨by omega, by omega⟩, Hd⟩
              case measure => simp; omega
      · have hnx : ∀ ty, (Instr.next (.pointer (some ⟨w.heap.size, 0, none⟩)) true ty).run Tryz.prog (w.iter a0 pos) = _ := fun ty => run_next_any w a0 pos ty hp
        have hh := (decode_high a0 pos hp (by omega)).1
        rw [if_pos (.inr (by omega))] at hd
        have hr := HR.out
        unfold num_count.f at hr
        rw [← hd] at hr
        simp only [Option.some.injEq, Prod.mk.injEq] at hr
        have Hr := Aside0.mk hr
        generalize hgd : Utf8.decode a0 pos = D at *
        obtain ⟨rn, wd⟩ := D
        simp only at hh
        have b1b : decide ((rn : Int) < 48) = false := decide_eq_false (by omega)
        have b2b : decide (57 < (rn : Int)) = true := decide_eq_true (by omega)
        clear hr hd hgd hh hlt hc
        go_wp2
        go_ret2
        exact ⟨by rw [← Hr.out.1, ← Hr.out.2]; rfl, X.below_iter (Below.refl _ _) (Nat.le_refl _) _ _⟩
    · have hnx : ∀ ty, (Instr.next (.pointer (some ⟨w.heap.size, 0, none⟩)) true ty).run Tryz.prog (w.iter a0 pos) = _ := fun ty => run_next_end w a0 pos ty hp
      have hd := HC.out
      rw [List.drop_of_length_le (by simpa using hp)] at hd
      simp only [X.cntf] at hd
      have hr := HR.out
      unfold num_count.f at hr
      rw [← hd] at hr
      simp only [Option.some.injEq, Prod.mk.injEq] at hr
      have Hr := Aside0.mk hr
      clear hr hd
      by_cases c1 : a1 ≤ (a0.size : Int)
      · have c1b : decide (a1 ≤ (a0.size : Int)) = true := decide_eq_true c1
        by_cases c2 : (a0.size : Int) ≤ a2
        · have c2b : decide ((a0.size : Int) ≤ a2) = true := decide_eq_true c2
          clear c1 c2 hp
          go_wp2
          go_ret2
          exact ⟨by rw [← Hr.out.1, ← Hr.out.2]; simp [c1b, c2b], X.below_iter (Below.refl _ _) (Nat.le_refl _) _ _⟩
        · have c2b : decide ((a0.size : Int) ≤ a2) = false := decide_eq_false c2
          clear c1 c2 hp
          go_wp2
          go_ret2
          exact ⟨by rw [← Hr.out.1, ← Hr.out.2]; simp [c1b, c2b], X.below_iter (Below.refl _ _) (Nat.le_refl _) _ _⟩
      · have c1b : decide (a1 ≤ (a0.size : Int)) = false := decide_eq_false c1
        clear c1 hp
        go_wp2
        go_ret2
        exact ⟨by rw [← Hr.out.1, ← Hr.out.2]; simp [c1b], X.below_iter (Below.refl _ _) (Nat.le_refl _) _ _⟩
/-! ### num_Parse: function 128 -/
mutual
def num_Parse.j0 : Nat → Bool → ByteArray → Int → Int → Bool → Option (Int × Bool)
  | 0, _, _, _, _, _ => none
  | k + 1, x4, x6, x8, x10, x41 => if x41 = true then (some (0, false)) else (num_Parse.l0 k x4 x8 x10 (wrap64 (4 - (x6.size : Int))) 0)
def num_Parse.l0 : Nat → Bool → Int → Int → Int → Int → Option (Int × Bool)
  | 0, _, _, _, _, _ => none
  | k + 1, x4, x8, x10, x44, x45 => if x45 < x44 then (num_Parse.l0 k x4 x8 (wrap64 (x10 * 10)) x44 (wrap64 (x45 + 1))) else (if x4 = true then ((num_told.f (wrap64 (-(wrap64 ((wrap64 (x8 * 10000)) + x10))))).bind fun bt145 => (some (bt145.1, bt145.2))) else ((num_told.f (wrap64 ((wrap64 (x8 * 10000)) + x10))).bind fun bt147 => (some (bt147.1, bt147.2))))
end
def num_Parse.f (k : Nat) (a0 : ByteArray) : Option (Int × Bool) := (strings_CutPrefix.f a0 (⟨#[45]⟩ : ByteArray)).bind fun bt136 => ((strings_Cut.f k bt136.1 (⟨#[46]⟩ : ByteArray)).bind fun bt138 => ((num_count.f bt138.1 1 12).bind fun bt141 => ((num_count.f bt138.2.1 1 4).bind fun bt143 => (if bt141.2 = true then (if bt138.2.2 = true then (num_Parse.j0 k bt136.2 bt138.2.1 bt141.1 bt143.1 (!bt143.2)) else (num_Parse.j0 k bt136.2 bt138.2.1 bt141.1 bt143.1 false)) else (num_Parse.j0 k bt136.2 bt138.2.1 bt141.1 bt143.1 true)))))
theorem num_Parse.mono_l : ∀ k, (∀ y0 y1 y2 y3 y4, LeO (num_Parse.j0 k y0 y1 y2 y3 y4) (num_Parse.j0 (k + 1) y0 y1 y2 y3 y4)) ∧ (∀ y0 y1 y2 y3 y4, LeO (num_Parse.l0 k y0 y1 y2 y3 y4) (num_Parse.l0 (k + 1) y0 y1 y2 y3 y4))
  | 0 => ⟨fun _ _ _ _ _ r h => by simp [num_Parse.j0] at h, fun _ _ _ _ _ r h => by simp [num_Parse.l0] at h⟩
  | k + 1 => by
    obtain ⟨ih0, ih1⟩ := num_Parse.mono_l k
    refine ⟨?_, ?_⟩
    · intro y0 y1 y2 y3 y4
      unfold num_Parse.j0
      repeat' first
      | (with_reducible exact ih0 _ _ _ _ _)
      | (with_reducible exact ih1 _ _ _ _ _)
      | (with_reducible exact strings_Cut.mono _ _ _)
      | (with_reducible exact LeO.refl _)
      | (with_reducible exact LeO.none _)
      | (with_reducible refine LeO.ite ?_ ?_)
      | (with_reducible refine LeO.bind ?_ (fun _ => ?_))
      | exact ih0 _ _ _ _ _
      | exact ih1 _ _ _ _ _
      | exact strings_Cut.mono _ _ _
      | exact LeO.none _
      | refine LeO.ite ?_ ?_
      | refine LeO.bind ?_ (fun _ => ?_)
    · intro y0 y1 y2 y3 y4
      unfold num_Parse.l0
      repeat' first
      | (with_reducible exact ih0 _ _ _ _ _)
      | (with_reducible exact ih1 _ _ _ _ _)
      | (with_reducible exact strings_Cut.mono _ _ _)
      | (with_reducible exact LeO.refl _)
      | (with_reducible exact LeO.none _)
      | (with_reducible refine LeO.ite ?_ ?_)
      | (with_reducible refine LeO.bind ?_ (fun _ => ?_))
      | exact ih0 _ _ _ _ _
      | exact ih1 _ _ _ _ _
      | exact strings_Cut.mono _ _ _
      | exact LeO.none _
      | refine LeO.ite ?_ ?_
      | refine LeO.bind ?_ (fun _ => ?_)
theorem num_Parse.mono : ∀ a0 k, LeO (num_Parse.f k a0) (num_Parse.f (k + 1) a0) := by
  intro a0 k
  obtain ⟨ih0, ih1⟩ := num_Parse.mono_l k
  unfold num_Parse.f
  repeat' first
      | (with_reducible exact ih0 _ _ _ _ _)
      | (with_reducible exact ih1 _ _ _ _ _)
      | (with_reducible exact strings_Cut.mono _ _ _)
      | (with_reducible exact LeO.refl _)
      | (with_reducible exact LeO.none _)
      | (with_reducible refine LeO.ite ?_ ?_)
      | (with_reducible refine LeO.bind ?_ (fun _ => ?_))
      | exact ih0 _ _ _ _ _
      | exact ih1 _ _ _ _ _
      | exact strings_Cut.mono _ _ _
      | exact LeO.none _
      | refine LeO.ite ?_ ?_
      | refine LeO.bind ?_ (fun _ => ?_)
set_option maxHeartbeats 8000000 in
set_option maxRecDepth 100000 in
theorem num_Parse.calls (k : Nat) (a0 : ByteArray) (r1 : Int) (r2 : Bool) (w : World) (h : num_Parse.f k a0 = some (r1, r2)) :
    Calls Tryz.prog 128 #[.string a0] w fun e w' => e = .returned (.tuple #[.int .i64 r1, .bool r2]) ∧ Below w.heap.size w w' := by
  have HB := Aside0.mk (Below.refl w.heap.size w)
  have H : ((strings_CutPrefix.f a0 (⟨#[45]⟩ : ByteArray)).bind fun bt136 => ((strings_Cut.f k bt136.1 (⟨#[46]⟩ : ByteArray)).bind fun bt138 => ((num_count.f bt138.1 1 12).bind fun bt141 => ((num_count.f bt138.2.1 1 4).bind fun bt143 => (if bt141.2 = true then (if bt138.2.2 = true then (num_Parse.j0 k bt136.2 bt138.2.1 bt141.1 bt143.1 (!bt143.2)) else (num_Parse.j0 k bt136.2 bt138.2.1 bt141.1 bt143.1 false)) else (num_Parse.j0 k bt136.2 bt138.2.1 bt141.1 bt143.1 true)))))) = some (r1, r2) := h
  clear h
  replace H := Option.bind_eq_some_iff.mp H
  obtain ⟨⟨t136, t137⟩, A20, H⟩ := H
  replace H : ((strings_Cut.f k t136 (⟨#[46]⟩ : ByteArray)).bind fun bt138 => ((num_count.f bt138.1 1 12).bind fun bt141 => ((num_count.f bt138.2.1 1 4).bind fun bt143 => (if bt141.2 = true then (if bt138.2.2 = true then (num_Parse.j0 k t137 bt138.2.1 bt141.1 bt143.1 (!bt143.2)) else (num_Parse.j0 k t137 bt138.2.1 bt141.1 bt143.1 false)) else (num_Parse.j0 k t137 bt138.2.1 bt141.1 bt143.1 true))))) = some (r1, r2) := H
  have A2 := Aside0.mk A20
  clear A20
  replace H := Option.bind_eq_some_iff.mp H
  obtain ⟨⟨t138, t139, t140⟩, A30, H⟩ := H
  replace H : ((num_count.f t138 1 12).bind fun bt141 => ((num_count.f t139 1 4).bind fun bt143 => (if bt141.2 = true then (if t140 = true then (num_Parse.j0 k t137 t139 bt141.1 bt143.1 (!bt143.2)) else (num_Parse.j0 k t137 t139 bt141.1 bt143.1 false)) else (num_Parse.j0 k t137 t139 bt141.1 bt143.1 true)))) = some (r1, r2) := H
  have A3 := Aside0.mk A30
  clear A30
  replace H := Option.bind_eq_some_iff.mp H
  obtain ⟨⟨t141, t142⟩, A40, H⟩ := H
  replace H : ((num_count.f t139 1 4).bind fun bt143 => (if t142 = true then (if t140 = true then (num_Parse.j0 k t137 t139 t141 bt143.1 (!bt143.2)) else (num_Parse.j0 k t137 t139 t141 bt143.1 false)) else (num_Parse.j0 k t137 t139 t141 bt143.1 true))) = some (r1, r2) := H
  have A4 := Aside0.mk A40
  clear A40
  replace H := Option.bind_eq_some_iff.mp H
  obtain ⟨⟨t143, t144⟩, A50, H⟩ := H
  replace H : (if t142 = true then (if t140 = true then (num_Parse.j0 k t137 t139 t141 t143 (!t144)) else (num_Parse.j0 k t137 t139 t141 t143 false)) else (num_Parse.j0 k t137 t139 t141 t143 true)) = some (r1, r2) := H
  have A5 := Aside0.mk A50
  clear A50
  have HC6 := Aside0.mk H
  clear H
  go_enter Tryz.func128, Tryz.ntmps128
  go_upto_region 5 with (first | ((with_reducible refine gate_callee (f := 133) rfl ?_); refine goesL_ (some 14) rfl rfl Tryz.func133 (by kernel_rfl) rfl #[.string a0, .string (⟨#[45]⟩ : ByteArray)] rfl (by (try simp only [List.map_toArray, List.map_cons, List.map_nil]); first | done | rfl | (simp only [List.length_drop, List.length_take]; rfl)) ?_; (with_reducible refine (strings_CutPrefix.calls a0 (⟨#[45]⟩ : ByteArray) t136 t137 _ A2.out).mono ?_); rintro e w' ⟨rfl, ⟨nd, rfl⟩⟩; refine ⟨_, rfl, ?_⟩) | ((with_reducible refine gate_callee (f := 134) rfl ?_); refine goesL_ (some 19) rfl rfl Tryz.func134 (by kernel_rfl) rfl #[.string t136, .string (⟨#[46]⟩ : ByteArray)] rfl (by (try simp only [List.map_toArray, List.map_cons, List.map_nil]); first | done | rfl | (simp only [List.length_drop, List.length_take]; rfl)) ?_; (with_reducible refine (strings_Cut.calls k t136 (⟨#[46]⟩ : ByteArray) t138 t139 t140 _ A3.out).mono ?_); rintro e w' ⟨rfl, ⟨nd, rfl⟩⟩; refine ⟨_, rfl, ?_⟩) | ((with_reducible refine gate_callee (f := 135) rfl ?_); refine goesL_ (some 25) rfl rfl Tryz.func135 (by kernel_rfl) rfl #[.string t138, .int .i64 1, .int .i64 12] rfl (by (try simp only [List.map_toArray, List.map_cons, List.map_nil]); first | done | rfl | (simp only [List.length_drop, List.length_take]; rfl)) ?_; (with_reducible refine (num_count.calls t138 1 12 t141 t142 _ A4.out).mono ?_); rintro e w7 ⟨rfl, hb⟩; refine ⟨_, rfl, ?_⟩; have n0_ := Aside0.mk (below_step (by repeat (first | (with_reducible first | exact HB.out | apply below_alloc | apply pw_below_drewN | apply below_drew1) | exact HB.out)) hb); clear HB; have HB := n0_; clear n0_; (try clear hb); (try clear hb2); (try clear hk); (try clear hi)) | ((with_reducible refine gate_callee (f := 135) rfl ?_); refine goesL_ (some 30) rfl rfl Tryz.func135 (by kernel_rfl) rfl #[.string t139, .int .i64 1, .int .i64 4] rfl (by (try simp only [List.map_toArray, List.map_cons, List.map_nil]); first | done | rfl | (simp only [List.length_drop, List.length_take]; rfl)) ?_; (with_reducible refine (num_count.calls t139 1 4 t143 t144 _ A5.out).mono ?_); rintro e w8 ⟨rfl, hb⟩; refine ⟨_, rfl, ?_⟩; have n0_ := Aside0.mk (below_step (by repeat (first | (with_reducible first | exact HB.out | apply below_alloc | apply pw_below_drewN | apply below_drew1) | exact HB.out)) hb); clear HB; have HB := n0_; clear n0_; (try clear hb); (try clear hb2); (try clear hk); (try clear hi)))
  (try simp only [Act.put, List.setIfInBounds_toArray, List.set_cons_zero, List.set_cons_succ])
  go_cut [41] (fun v41 wc => ∃ (kq : Nat) (x41_5 : Bool), v41 = .bool x41_5 ∧ Aside0 (num_Parse.j0 kq t137 t139 t141 t143 x41_5 = some (r1, r2)) ∧ Aside0 (kq ≤ k) ∧ Aside0 (Below w.heap.size w wc))
  case first =>
    have H := HC6.out
    clear HC6
    by_cases c9 : t142 = true
    · subst c9
      have H1 : (if t140 = true then (num_Parse.j0 k t137 t139 t141 t143 (!t144)) else (num_Parse.j0 k t137 t139 t141 t143 false)) = some (r1, r2) := by rw [if_pos rfl] at H; exact H
      clear H
      have H := H1
      clear H1
      by_cases c10 : t140 = true
      · subst c10
        have H1 : (num_Parse.j0 k t137 t139 t141 t143 (!t144)) = some (r1, r2) := by rw [if_pos rfl] at H; exact H
        clear H
        have H := H1
        clear H1
        have H' := Aside0.mk H
        clear H
        go_wp2
        go_meet
        case rel => exact ⟨_, (!t144), (by first | rfl | (simp; done) | (simp [*]; done) | (simp [Go.Proofs.YtnpcmgajplikbaaGreatDoor.X.bne_nil]; done)), H', ⟨by first | omega | exact Nat.le_refl _⟩, ⟨by repeat (first | (with_reducible first | exact HB.out | apply below_alloc | apply pw_below_drewN | apply below_drew1) | exact HB.out)⟩⟩
      · replace c10 := Bool.eq_false_iff.mpr c10
        subst c10
        have H1 : (num_Parse.j0 k t137 t139 t141 t143 false) = some (r1, r2) := by rw [if_neg (show ¬ (false = true) by decide)] at H; exact H
        clear H
        have H := H1
        clear H1
        have H' := Aside0.mk H
        clear H
        go_wp2
        go_meet
        case rel => exact ⟨_, (false), (by first | rfl | (simp; done) | (simp [*]; done) | (simp [Go.Proofs.YtnpcmgajplikbaaGreatDoor.X.bne_nil]; done)), H', ⟨by first | omega | exact Nat.le_refl _⟩, ⟨by repeat (first | (with_reducible first | exact HB.out | apply below_alloc | apply pw_below_drewN | apply below_drew1) | exact HB.out)⟩⟩
    · replace c9 := Bool.eq_false_iff.mpr c9
      subst c9
      have H1 : (num_Parse.j0 k t137 t139 t141 t143 true) = some (r1, r2) := by rw [if_neg (show ¬ (false = true) by decide)] at H; exact H
      clear H
      have H := H1
      clear H1
      have H' := Aside0.mk H
      clear H
      go_wp2
      go_meet
      case rel => exact ⟨_, (true), (by first | rfl | (simp; done) | (simp [*]; done) | (simp [Go.Proofs.YtnpcmgajplikbaaGreatDoor.X.bne_nil]; done)), H', ⟨by first | omega | exact Nat.le_refl _⟩, ⟨by repeat (first | (with_reducible first | exact HB.out | apply below_alloc | apply pw_below_drewN | apply below_drew1) | exact HB.out)⟩⟩
  case rest =>
    clear HC6
    try clear c1
    try clear p2
    try clear c9
    try clear c10
    obtain ⟨kq, x41_5, rfl, HA, HJ5, HB⟩ := hcut
    cases kq with
    | zero => exact absurd HA.out (by simp [num_Parse.j0])
    | succ kj5 =>
      have H := HA.out
      clear HA
      simp only [num_Parse.j0] at H
      by_cases c11 : x41_5 = true
      · subst c11
        have H1 : (some (0, false)) = some (r1, r2) := by rw [if_pos rfl] at H; exact H
        clear H
        have H := H1
        clear H1
        simp only [Option.some.injEq, Prod.mk.injEq] at H
        obtain ⟨rfl, rfl⟩ := H
        go_wp2
        go_ret2
        exact ⟨by first | rfl | (simp [errW_none, errW_some] <;> rfl) | (simp [*, errW_none, errW_some] <;> rfl), by repeat (first | (with_reducible first | exact HB.out | apply below_alloc | apply pw_below_drewN | apply below_drew1) | exact HB.out)⟩
      · replace c11 := Bool.eq_false_iff.mpr c11
        subst c11
        have H1 : (num_Parse.l0 kj5 t137 t141 t143 (wrap64 (4 - (t139.size : Int))) 0) = some (r1, r2) := by rw [if_neg (show ¬ (false = true) by decide)] at H; exact H
        clear H
        have H := H1
        clear H1
        have H' := Aside0.mk H
        clear H
        go_wp2
        go_loopg [10, 45] kj5 (fun kq v10 v45 w' => ∃ (x10_2 : Int) (x45_2 : Int), v10 = .int .i64 x10_2 ∧ v45 = .int .i64 x45_2 ∧ Aside0 (num_Parse.l0 kq t137 t141 x10_2 (wrap64 (4 - (t139.size : Int))) x45_2 = some (r1, r2)) ∧ Aside0 (kq ≤ kj5) ∧ Aside0 (Below w.heap.size w w'))
        case atStart => exact ⟨(t143), (0), (by first | rfl | (simp; done) | (simp [*]; done) | (simp [Go.Proofs.YtnpcmgajplikbaaGreatDoor.X.bne_nil]; done)), (by first | rfl | (simp; done) | (simp [*]; done) | (simp [Go.Proofs.YtnpcmgajplikbaaGreatDoor.X.bne_nil]; done)), H', ⟨Nat.le_refl _⟩, ⟨by repeat (first | (with_reducible first | exact HB.out | apply below_alloc | apply pw_below_drewN | apply below_drew1) | exact HB.out)⟩⟩
        case round =>
          clear H'
          try clear c1
          try clear p2
          try clear p6
          try clear c9
          try clear c10
          try clear c11
          try clear p2
          obtain ⟨x10_2, x45_2, rfl, rfl, HA, HK2, HB⟩ := hrel
          cases gk with
          | zero => exact absurd HA.out (by simp [num_Parse.l0])
          | succ k2 =>
            have H := HA.out
            clear HA
            simp only [num_Parse.l0] at H
            by_cases c12 : x45_2 < (wrap64 (4 - (t139.size : Int)))
            · rw [if_pos c12] at H
              have c12b0 : decide (x45_2 < (wrap64 (4 - (t139.size : Int)))) = true := decide_eq_true c12
              clear c12
              have H' := Aside0.mk H
              clear H
              go_wp2
              go_roundg k2
              case measure => have := HJ5.out; have := HK2.out; omega
              case rel => exact ⟨(wrap64 (x10_2 * 10)), (wrap64 (x45_2 + 1)), (by first | rfl | (simp; done) | (simp [*]; done) | (simp [Go.Proofs.YtnpcmgajplikbaaGreatDoor.X.bne_nil]; done)), (by first | rfl | (simp; done) | (simp [*]; done) | (simp [Go.Proofs.YtnpcmgajplikbaaGreatDoor.X.bne_nil]; done)), H', ⟨by have := HJ5.out; have := HK2.out; omega⟩, ⟨by repeat (first | (with_reducible first | exact HB.out | apply below_alloc | apply pw_below_drewN | apply below_drew1) | exact HB.out)⟩⟩
            · rw [if_neg c12] at H
              have c12b0 : decide (x45_2 < (wrap64 (4 - (t139.size : Int)))) = false := decide_eq_false c12
              clear c12
              by_cases c13 : t137 = true
              · subst c13
                have H1 : ((num_told.f (wrap64 (-(wrap64 ((wrap64 (t141 * 10000)) + x10_2))))).bind fun bt145 => (some (bt145.1, bt145.2))) = some (r1, r2) := by rw [if_pos rfl] at H; exact H
                clear H
                have H := H1
                clear H1
                replace H := Option.bind_eq_some_iff.mp H
                obtain ⟨⟨t145, t146⟩, A140, H⟩ := H
                replace H : (some (t145, t146)) = some (r1, r2) := H
                have A14 := Aside0.mk A140
                clear A140
                simp only [Option.some.injEq, Prod.mk.injEq] at H
                obtain ⟨rfl, rfl⟩ := H
                go_wp2_with (first | ((with_reducible refine gate_callee (f := 76) rfl ?_); refine goesL_ (some 58) rfl rfl Tryz.func76 (by kernel_rfl) rfl #[.int .i64 (wrap64 (-(wrap64 ((wrap64 (t141 * 10000)) + x10_2))))] rfl (by (try simp only [List.map_toArray, List.map_cons, List.map_nil]); first | done | rfl | (simp only [List.length_drop, List.length_take]; rfl)) ?_; (with_reducible refine (num_told.calls (wrap64 (-(wrap64 ((wrap64 (t141 * 10000)) + x10_2)))) t145 t146 _ A14.out).mono ?_); rintro e w' ⟨rfl, ⟨nd, rfl⟩⟩; refine ⟨_, rfl, ?_⟩))
                go_ret2
                exact ⟨by first | rfl | (simp [errW_none, errW_some] <;> rfl) | (simp [*, errW_none, errW_some] <;> rfl), by repeat (first | (with_reducible first | exact HB.out | apply below_alloc | apply pw_below_drewN | apply below_drew1) | exact HB.out)⟩
              · replace c13 := Bool.eq_false_iff.mpr c13
                subst c13
                have H1 : ((num_told.f (wrap64 ((wrap64 (t141 * 10000)) + x10_2))).bind fun bt147 => (some (bt147.1, bt147.2))) = some (r1, r2) := by rw [if_neg (show ¬ (false = true) by decide)] at H; exact H
                clear H
                have H := H1
                clear H1
                replace H := Option.bind_eq_some_iff.mp H
                obtain ⟨⟨t147, t148⟩, A150, H⟩ := H
                replace H : (some (t147, t148)) = some (r1, r2) := H
                have A15 := Aside0.mk A150
                clear A150
                simp only [Option.some.injEq, Prod.mk.injEq] at H
                obtain ⟨rfl, rfl⟩ := H
                go_wp2_with (first | ((with_reducible refine gate_callee (f := 76) rfl ?_); refine goesL_ (some 58) rfl rfl Tryz.func76 (by kernel_rfl) rfl #[.int .i64 (wrap64 ((wrap64 (t141 * 10000)) + x10_2))] rfl (by (try simp only [List.map_toArray, List.map_cons, List.map_nil]); first | done | rfl | (simp only [List.length_drop, List.length_take]; rfl)) ?_; (with_reducible refine (num_told.calls (wrap64 ((wrap64 (t141 * 10000)) + x10_2)) t147 t148 _ A15.out).mono ?_); rintro e w' ⟨rfl, ⟨nd, rfl⟩⟩; refine ⟨_, rfl, ?_⟩))
                go_ret2
                exact ⟨by first | rfl | (simp [errW_none, errW_some] <;> rfl) | (simp [*, errW_none, errW_some] <;> rfl), by repeat (first | (with_reducible first | exact HB.out | apply below_alloc | apply pw_below_drewN | apply below_drew1) | exact HB.out)⟩

/-! ### num_floor: function 75 -/
def num_floor.f (a0 : Int) (a1 : Int) : Option (Int) := if a1 = 0 then (none) else (if (Int.tmod a0 a1) = 0 then (some (wrap64 (Int.tdiv a0 a1))) else (if (Go.bits .xor .i64 (Int.tmod a0 a1) a1) < 0 then (some (wrap64 ((wrap64 (Int.tdiv a0 a1)) - 1))) else (some (wrap64 (Int.tdiv a0 a1)))))
set_option maxHeartbeats 8000000 in
set_option maxRecDepth 100000 in
theorem num_floor.calls (a0 : Int) (a1 : Int) (r : Int) (w : World) (h : num_floor.f a0 a1 = some r) :
    Calls Tryz.prog 75 #[.int .i64 a0, .int .i64 a1] w fun e w' => e = .returned (.int .i64 r) ∧ Drawn0 w w' := by
  have H : (if a1 = 0 then (none) else (if (Int.tmod a0 a1) = 0 then (some (wrap64 (Int.tdiv a0 a1))) else (if (Go.bits .xor .i64 (Int.tmod a0 a1) a1) < 0 then (some (wrap64 ((wrap64 (Int.tdiv a0 a1)) - 1))) else (some (wrap64 (Int.tdiv a0 a1)))))) = some r := h
  clear h
  by_cases c3 : a1 = 0
  · rw [if_pos c3] at H
    exact absurd H (by simp)
  · rw [if_neg c3] at H
    have c3b0 : (a1 == 0) = false := beq_eq_false_iff_ne.mpr c3
    have c3b1 : (a1 != 0) = true := bne_iff_ne.mpr c3
    by_cases c4 : (Int.tmod a0 a1) = 0
    · rw [if_pos c4] at H
      have c4b0 : ((Int.tmod a0 a1) == 0) = true := beq_iff_eq.mpr c4
      have c4b1 : ((Int.tmod a0 a1) != 0) = false := bne_eq_false_iff_eq.mpr c4
      clear c4
      obtain rfl := Option.some.inj H
      go_enter Tryz.func75, Tryz.ntmps75
      go_wp2
      repeat (go_quiet (fail); try go_wp2)
      go_ret
      exact ⟨by first | rfl | (simp; done) | (simp [*]; done) | (simp [Go.Proofs.YtnpcmgajplikbaaGreatDoor.X.bne_nil]; done), by repeat (first | exact Drawn0.refl _ | apply Drawn0.step)⟩
    · rw [if_neg c4] at H
      have c4b0 : ((Int.tmod a0 a1) == 0) = false := beq_eq_false_iff_ne.mpr c4
      have c4b1 : ((Int.tmod a0 a1) != 0) = true := bne_iff_ne.mpr c4
      by_cases c5 : (Go.bits .xor .i64 (Int.tmod a0 a1) a1) < 0
      · rw [if_pos c5] at H
        have c5b0 : decide ((Go.bits .xor .i64 (Int.tmod a0 a1) a1) < 0) = true := decide_eq_true c5
        clear c5
        obtain rfl := Option.some.inj H
        go_enter Tryz.func75, Tryz.ntmps75
        go_wp2
        repeat (go_quiet (fail); try go_wp2)
        go_ret
        exact ⟨by first | rfl | (simp; done) | (simp [*]; done) | (simp [Go.Proofs.YtnpcmgajplikbaaGreatDoor.X.bne_nil]; done), by repeat (first | exact Drawn0.refl _ | apply Drawn0.step)⟩
      · rw [if_neg c5] at H
        have c5b0 : decide ((Go.bits .xor .i64 (Int.tmod a0 a1) a1) < 0) = false := decide_eq_false c5
        clear c5
        obtain rfl := Option.some.inj H
        go_enter Tryz.func75, Tryz.ntmps75
        go_wp2
        repeat (go_quiet (fail); try go_wp2)
        go_ret
        exact ⟨by first | rfl | (simp; done) | (simp [*]; done) | (simp [Go.Proofs.YtnpcmgajplikbaaGreatDoor.X.bne_nil]; done), by repeat (first | exact Drawn0.refl _ | apply Drawn0.step)⟩

/-! ### num_Round: function 39 -/
mutual
def num_Round.j0 : Nat → Int → Int → Int → Bool → Option (Int × Bool)
  | 0, _, _, _, _ => none
  | k + 1, x0, x1, x2, x30 => if x30 = true then (some (0, false)) else (num_Round.l0 k x0 x2 1 (wrap64 (4 - x1)) 0)
def num_Round.l0 : Nat → Int → Int → Int → Int → Int → Option (Int × Bool)
  | 0, _, _, _, _, _ => none
  | k + 1, x0, x2, x8, x32, x33 => if x33 < x32 then (num_Round.l0 k x0 x2 (wrap64 (x8 * 10)) x32 (wrap64 (x33 + 1))) else ((num_floor.f x0 x8).bind fun t150 => (if (wrap64 (x0 - (wrap64 (t150 * x8)))) = 0 then (some (x0, true)) else (if (wrap64 (2 * (wrap64 (x0 - (wrap64 (t150 * x8)))))) > x8 then (if 0 ≤ x2 then (if x2 < 5 then (if (rdOf false ([true, decide (x0 > 0), decide (x0 < 0), true, false] : List Bool) x2) = true then ((num_told.f (wrap64 ((wrap64 (x0 - (wrap64 (x0 - (wrap64 (t150 * x8)))))) + x8))).bind fun bt151 => (some (bt151.1, bt151.2))) else ((num_told.f (wrap64 (x0 - (wrap64 (x0 - (wrap64 (t150 * x8))))))).bind fun bt153 => (some (bt153.1, bt153.2)))) else (none)) else (none)) else (if (wrap64 (2 * (wrap64 (x0 - (wrap64 (t150 * x8)))))) = x8 then (if 0 ≤ x2 then (if x2 < 5 then (if (rdOf false ([decide (x0 > 0), decide (x0 > 0), decide (x0 < 0), true, false] : List Bool) x2) = true then ((num_told.f (wrap64 ((wrap64 (x0 - (wrap64 (x0 - (wrap64 (t150 * x8)))))) + x8))).bind fun bt155 => (some (bt155.1, bt155.2))) else ((num_told.f (wrap64 (x0 - (wrap64 (x0 - (wrap64 (t150 * x8))))))).bind fun bt157 => (some (bt157.1, bt157.2)))) else (none)) else (none)) else (if 0 ≤ x2 then (if x2 < 5 then (if (rdOf false ([false, decide (x0 > 0), decide (x0 < 0), true, false] : List Bool) x2) = true then ((num_told.f (wrap64 ((wrap64 (x0 - (wrap64 (x0 - (wrap64 (t150 * x8)))))) + x8))).bind fun bt159 => (some (bt159.1, bt159.2))) else ((num_told.f (wrap64 (x0 - (wrap64 (x0 - (wrap64 (t150 * x8))))))).bind fun bt161 => (some (bt161.1, bt161.2)))) else (none)) else (none))))))
end
def num_Round.f (k : Nat) (a0 : Int) (a1 : Int) (a2 : Int) : Option (Int × Bool) := (num_Good.f a0).bind fun t149 => (if t149 = true then (if a1 < (-8) then (num_Round.j0 k a0 a1 a2 true) else (if a1 > 4 then (num_Round.j0 k a0 a1 a2 true) else (if a2 < 0 then (num_Round.j0 k a0 a1 a2 true) else (num_Round.j0 k a0 a1 a2 (decide (a2 > 4)))))) else (num_Round.j0 k a0 a1 a2 true))
theorem num_Round.mono_l : ∀ k, (∀ y0 y1 y2 y3, LeO (num_Round.j0 k y0 y1 y2 y3) (num_Round.j0 (k + 1) y0 y1 y2 y3)) ∧ (∀ y0 y1 y2 y3 y4, LeO (num_Round.l0 k y0 y1 y2 y3 y4) (num_Round.l0 (k + 1) y0 y1 y2 y3 y4))
  | 0 => ⟨fun _ _ _ _ r h => by simp [num_Round.j0] at h, fun _ _ _ _ _ r h => by simp [num_Round.l0] at h⟩
  | k + 1 => by
    obtain ⟨ih0, ih1⟩ := num_Round.mono_l k
    refine ⟨?_, ?_⟩
    · intro y0 y1 y2 y3
      unfold num_Round.j0
      repeat' first
      | (with_reducible exact ih0 _ _ _ _)
      | (with_reducible exact ih1 _ _ _ _ _)
      | (with_reducible exact LeO.refl _)
      | (with_reducible exact LeO.none _)
      | (with_reducible refine LeO.ite ?_ ?_)
      | (with_reducible refine LeO.bind ?_ (fun _ => ?_))
      | exact ih0 _ _ _ _
      | exact ih1 _ _ _ _ _
      | exact LeO.none _
      | refine LeO.ite ?_ ?_
      | refine LeO.bind ?_ (fun _ => ?_)
    · intro y0 y1 y2 y3 y4
      unfold num_Round.l0
      repeat' first
      | (with_reducible exact ih0 _ _ _ _)
      | (with_reducible exact ih1 _ _ _ _ _)
      | (with_reducible exact LeO.refl _)
      | (with_reducible exact LeO.none _)
      | (with_reducible refine LeO.ite ?_ ?_)
      | (with_reducible refine LeO.bind ?_ (fun _ => ?_))
      | exact ih0 _ _ _ _
      | exact ih1 _ _ _ _ _
      | exact LeO.none _
      | refine LeO.ite ?_ ?_
      | refine LeO.bind ?_ (fun _ => ?_)
theorem num_Round.mono : ∀ a0 a1 a2 k, LeO (num_Round.f k a0 a1 a2) (num_Round.f (k + 1) a0 a1 a2) := by
  intro a0 a1 a2 k
  obtain ⟨ih0, ih1⟩ := num_Round.mono_l k
  unfold num_Round.f
  repeat' first
      | (with_reducible exact ih0 _ _ _ _)
      | (with_reducible exact ih1 _ _ _ _ _)
      | (with_reducible exact LeO.refl _)
      | (with_reducible exact LeO.none _)
      | (with_reducible refine LeO.ite ?_ ?_)
      | (with_reducible refine LeO.bind ?_ (fun _ => ?_))
      | exact ih0 _ _ _ _
      | exact ih1 _ _ _ _ _
      | exact LeO.none _
      | refine LeO.ite ?_ ?_
      | refine LeO.bind ?_ (fun _ => ?_)
set_option maxHeartbeats 8000000 in
set_option maxRecDepth 100000 in
theorem num_Round.calls (k : Nat) (a0 : Int) (a1 : Int) (a2 : Int) (r1 : Int) (r2 : Bool) (w : World) (h : num_Round.f k a0 a1 a2 = some (r1, r2)) :
    Calls Tryz.prog 39 #[.int .i64 a0, .int .i64 a1, .int .i64 a2] w fun e w' => e = .returned (.tuple #[.int .i64 r1, .bool r2]) ∧ Drawn0 w w' := by
  have hu80 := Tryz.underlying80
  have H : ((num_Good.f a0).bind fun t149 => (if t149 = true then (if a1 < (-8) then (num_Round.j0 k a0 a1 a2 true) else (if a1 > 4 then (num_Round.j0 k a0 a1 a2 true) else (if a2 < 0 then (num_Round.j0 k a0 a1 a2 true) else (num_Round.j0 k a0 a1 a2 (decide (a2 > 4)))))) else (num_Round.j0 k a0 a1 a2 true))) = some (r1, r2) := h
  clear h
  have HC4 := Aside0.mk H
  clear H
  go_enter Tryz.func39, Tryz.ntmps39
  go_upto_region 1 with (fail)
  go_cut [30] (fun v30 wc => ∃ (kq : Nat) (x30_3 : Bool), v30 = .bool x30_3 ∧ Aside0 (num_Round.j0 kq a0 a1 a2 x30_3 = some (r1, r2)) ∧ Aside0 (kq ≤ k) ∧ Drawn0 w wc)
  case first =>
    have H := HC4.out
    clear HC4
    replace H := Option.bind_eq_some_iff.mp H
    obtain ⟨t149, A50, H⟩ := H
    replace H : (if t149 = true then (if a1 < (-8) then (num_Round.j0 k a0 a1 a2 true) else (if a1 > 4 then (num_Round.j0 k a0 a1 a2 true) else (if a2 < 0 then (num_Round.j0 k a0 a1 a2 true) else (num_Round.j0 k a0 a1 a2 (decide (a2 > 4)))))) else (num_Round.j0 k a0 a1 a2 true)) = some (r1, r2) := H
    have A5 := Aside0.mk A50
    clear A50
    by_cases c6 : t149 = true
    · subst c6
      have H1 : (if a1 < (-8) then (num_Round.j0 k a0 a1 a2 true) else (if a1 > 4 then (num_Round.j0 k a0 a1 a2 true) else (if a2 < 0 then (num_Round.j0 k a0 a1 a2 true) else (num_Round.j0 k a0 a1 a2 (decide (a2 > 4)))))) = some (r1, r2) := by rw [if_pos rfl] at H; exact H
      clear H
      have H := H1
      clear H1
      by_cases c7 : a1 < (-8)
      · rw [if_pos c7] at H
        have c7b0 : decide (a1 < (-8)) = true := decide_eq_true c7
        clear c7
        (first | rw [c7b0] | (simp only [i64_w, i32_w]; rw [c7b0]) | skip)
        have H' := Aside0.mk H
        clear H
        go_wp2_with (first | ((with_reducible refine gate_callee (f := 59) rfl ?_); refine goesL_ (some 13) rfl rfl Tryz.func59 (by kernel_rfl) rfl #[.int .i64 a0] rfl (by (try simp only [List.map_toArray, List.map_cons, List.map_nil]); first | done | rfl | (simp only [List.length_drop, List.length_take]; rfl)) ?_; (with_reducible refine (num_Good.calls a0 true _ A5.out).mono ?_); rintro e w' ⟨rfl, ⟨nd, rfl⟩⟩; refine ⟨_, rfl, ?_⟩))
        go_meet
        case rel => exact ⟨_, (true), (by first | rfl | (simp; done) | (simp [*]; done) | (simp [Go.Proofs.YtnpcmgajplikbaaGreatDoor.X.bne_nil]; done)), H', ⟨by first | omega | exact Nat.le_refl _⟩, by repeat (first | exact Drawn0.refl _ | apply Drawn0.step)⟩
      · rw [if_neg c7] at H
        have c7b0 : decide (a1 < (-8)) = false := decide_eq_false c7
        clear c7
        (first | rw [c7b0] | (simp only [i64_w, i32_w]; rw [c7b0]) | skip)
        by_cases c8 : a1 > 4
        · rw [if_pos c8] at H
          have c8b0 : decide (4 < a1) = true := decide_eq_true c8
          clear c8
          have H' := Aside0.mk H
          clear H
          go_wp2_with (first | ((with_reducible refine gate_callee (f := 59) rfl ?_); refine goesL_ (some 13) rfl rfl Tryz.func59 (by kernel_rfl) rfl #[.int .i64 a0] rfl (by (try simp only [List.map_toArray, List.map_cons, List.map_nil]); first | done | rfl | (simp only [List.length_drop, List.length_take]; rfl)) ?_; (with_reducible refine (num_Good.calls a0 true _ A5.out).mono ?_); rintro e w' ⟨rfl, ⟨nd, rfl⟩⟩; refine ⟨_, rfl, ?_⟩))
          go_meet
          case rel => exact ⟨_, (true), (by first | rfl | (simp; done) | (simp [*]; done) | (simp [Go.Proofs.YtnpcmgajplikbaaGreatDoor.X.bne_nil]; done)), H', ⟨by first | omega | exact Nat.le_refl _⟩, by repeat (first | exact Drawn0.refl _ | apply Drawn0.step)⟩
        · rw [if_neg c8] at H
          have c8b0 : decide (4 < a1) = false := decide_eq_false c8
          clear c8
          by_cases c9 : a2 < 0
          · rw [if_pos c9] at H
            have c9b0 : decide (a2 < 0) = true := decide_eq_true c9
            clear c9
            have H' := Aside0.mk H
            clear H
            go_wp2_with (first | ((with_reducible refine gate_callee (f := 59) rfl ?_); refine goesL_ (some 13) rfl rfl Tryz.func59 (by kernel_rfl) rfl #[.int .i64 a0] rfl (by (try simp only [List.map_toArray, List.map_cons, List.map_nil]); first | done | rfl | (simp only [List.length_drop, List.length_take]; rfl)) ?_; (with_reducible refine (num_Good.calls a0 true _ A5.out).mono ?_); rintro e w' ⟨rfl, ⟨nd, rfl⟩⟩; refine ⟨_, rfl, ?_⟩))
            go_meet
            case rel => exact ⟨_, (true), (by first | rfl | (simp; done) | (simp [*]; done) | (simp [Go.Proofs.YtnpcmgajplikbaaGreatDoor.X.bne_nil]; done)), H', ⟨by first | omega | exact Nat.le_refl _⟩, by repeat (first | exact Drawn0.refl _ | apply Drawn0.step)⟩
          · rw [if_neg c9] at H
            have c9b0 : decide (a2 < 0) = false := decide_eq_false c9
            clear c9
            have H' := Aside0.mk H
            clear H
            go_wp2_with (first | ((with_reducible refine gate_callee (f := 59) rfl ?_); refine goesL_ (some 13) rfl rfl Tryz.func59 (by kernel_rfl) rfl #[.int .i64 a0] rfl (by (try simp only [List.map_toArray, List.map_cons, List.map_nil]); first | done | rfl | (simp only [List.length_drop, List.length_take]; rfl)) ?_; (with_reducible refine (num_Good.calls a0 true _ A5.out).mono ?_); rintro e w' ⟨rfl, ⟨nd, rfl⟩⟩; refine ⟨_, rfl, ?_⟩))
            go_meet
            case rel => exact ⟨_, (decide (a2 > 4)), (by first | rfl | (simp; done) | (simp [*]; done) | (simp [Go.Proofs.YtnpcmgajplikbaaGreatDoor.X.bne_nil]; done)), H', ⟨by first | omega | exact Nat.le_refl _⟩, by repeat (first | exact Drawn0.refl _ | apply Drawn0.step)⟩
    · replace c6 := Bool.eq_false_iff.mpr c6
      subst c6
      have H1 : (num_Round.j0 k a0 a1 a2 true) = some (r1, r2) := by rw [if_neg (show ¬ (false = true) by decide)] at H; exact H
      clear H
      have H := H1
      clear H1
      have H' := Aside0.mk H
      clear H
      go_wp2_with (first | ((with_reducible refine gate_callee (f := 59) rfl ?_); refine goesL_ (some 13) rfl rfl Tryz.func59 (by kernel_rfl) rfl #[.int .i64 a0] rfl (by (try simp only [List.map_toArray, List.map_cons, List.map_nil]); first | done | rfl | (simp only [List.length_drop, List.length_take]; rfl)) ?_; (with_reducible refine (num_Good.calls a0 false _ A5.out).mono ?_); rintro e w' ⟨rfl, ⟨nd, rfl⟩⟩; refine ⟨_, rfl, ?_⟩))
      go_meet
      case rel => exact ⟨_, (true), (by first | rfl | (simp; done) | (simp [*]; done) | (simp [Go.Proofs.YtnpcmgajplikbaaGreatDoor.X.bne_nil]; done)), H', ⟨by first | omega | exact Nat.le_refl _⟩, by repeat (first | exact Drawn0.refl _ | apply Drawn0.step)⟩
  case rest =>
    clear HC4
    try clear p2
    try clear c3
    try clear c5
    try clear c6
    try clear c7
    try clear c7b0
    try clear c8
    try clear c8b0
    try clear c9
    try clear c9b0
    obtain ⟨kq, x30_3, rfl, HA, HJ3, ⟨mc3, rfl⟩⟩ := hcut
    cases kq with
    | zero => exact absurd HA.out (by simp [num_Round.j0])
    | succ kj3 =>
      have H := HA.out
      clear HA
      simp only [num_Round.j0] at H
      by_cases c10 : x30_3 = true
      · subst c10
        have H1 : (some (0, false)) = some (r1, r2) := by rw [if_pos rfl] at H; exact H
        clear H
        have H := H1
        clear H1
        simp only [Option.some.injEq, Prod.mk.injEq] at H
        obtain ⟨rfl, rfl⟩ := H
        go_wp2
        go_ret2
        exact ⟨by first | rfl | (simp; done) | (simp [*]; done) | (simp [Go.Proofs.YtnpcmgajplikbaaGreatDoor.X.bne_nil]; done), by repeat (first | exact Drawn0.refl _ | apply Drawn0.step)⟩
      · replace c10 := Bool.eq_false_iff.mpr c10
        subst c10
        have H1 : (num_Round.l0 kj3 a0 a2 1 (wrap64 (4 - a1)) 0) = some (r1, r2) := by rw [if_neg (show ¬ (false = true) by decide)] at H; exact H
        clear H
        have H := H1
        clear H1
        have H' := Aside0.mk H
        clear H
        go_wp2
        go_loopg [8, 33] kj3 (fun kq v8 v33 w' => ∃ (x8_2 : Int) (x33_2 : Int), v8 = .int .i64 x8_2 ∧ v33 = .int .i64 x33_2 ∧ Aside0 (num_Round.l0 kq a0 a2 x8_2 (wrap64 (4 - a1)) x33_2 = some (r1, r2)) ∧ Aside0 (kq ≤ kj3) ∧ Drawn0 w w')
        case atStart => exact ⟨(1), (0), (by first | rfl | (simp; done) | (simp [*]; done) | (simp [Go.Proofs.YtnpcmgajplikbaaGreatDoor.X.bne_nil]; done)), (by first | rfl | (simp; done) | (simp [*]; done) | (simp [Go.Proofs.YtnpcmgajplikbaaGreatDoor.X.bne_nil]; done)), H', ⟨Nat.le_refl _⟩, by repeat (first | exact Drawn0.refl _ | apply Drawn0.step)⟩
        case round =>
          clear H'
          try clear c1
          try clear p2
          try clear c3
          try clear c5
          try clear c6
          try clear p6
          try clear c7
          try clear c7b0
          try clear c8
          try clear c8b0
          try clear c9
          try clear c9b0
          try clear c10
          try clear p2
          obtain ⟨x8_2, x33_2, rfl, rfl, HA, HK2, ⟨m2, rfl⟩⟩ := hrel
          cases gk with
          | zero => exact absurd HA.out (by simp [num_Round.l0])
          | succ k2 =>
            have H := HA.out
            clear HA
            simp only [num_Round.l0] at H
            by_cases c11 : x33_2 < (wrap64 (4 - a1))
            · rw [if_pos c11] at H
              have c11b0 : decide (x33_2 < (wrap64 (4 - a1))) = true := decide_eq_true c11
              clear c11
              have H' := Aside0.mk H
              clear H
              go_wp2
              go_roundg k2
              case measure => have := HJ3.out; have := HK2.out; omega
              case rel => exact ⟨(wrap64 (x8_2 * 10)), (wrap64 (x33_2 + 1)), (by first | rfl | (simp; done) | (simp [*]; done) | (simp [Go.Proofs.YtnpcmgajplikbaaGreatDoor.X.bne_nil]; done)), (by first | rfl | (simp; done) | (simp [*]; done) | (simp [Go.Proofs.YtnpcmgajplikbaaGreatDoor.X.bne_nil]; done)), H', ⟨by have := HJ3.out; have := HK2.out; omega⟩, by repeat (first | exact Drawn0.refl _ | apply Drawn0.step)⟩
            · rw [if_neg c11] at H
              have c11b0 : decide (x33_2 < (wrap64 (4 - a1))) = false := decide_eq_false c11
              clear c11
              replace H := Option.bind_eq_some_iff.mp H
              obtain ⟨t150, A120, H⟩ := H
              replace H : (if (wrap64 (a0 - (wrap64 (t150 * x8_2)))) = 0 then (some (a0, true)) else (if (wrap64 (2 * (wrap64 (a0 - (wrap64 (t150 * x8_2)))))) > x8_2 then (if 0 ≤ a2 then (if a2 < 5 then (if (rdOf false ([true, decide (a0 > 0), decide (a0 < 0), true, false] : List Bool) a2) = true then ((num_told.f (wrap64 ((wrap64 (a0 - (wrap64 (a0 - (wrap64 (t150 * x8_2)))))) + x8_2))).bind fun bt151 => (some (bt151.1, bt151.2))) else ((num_told.f (wrap64 (a0 - (wrap64 (a0 - (wrap64 (t150 * x8_2))))))).bind fun bt153 => (some (bt153.1, bt153.2)))) else (none)) else (none)) else (if (wrap64 (2 * (wrap64 (a0 - (wrap64 (t150 * x8_2)))))) = x8_2 then (if 0 ≤ a2 then (if a2 < 5 then (if (rdOf false ([decide (a0 > 0), decide (a0 > 0), decide (a0 < 0), true, false] : List Bool) a2) = true then ((num_told.f (wrap64 ((wrap64 (a0 - (wrap64 (a0 - (wrap64 (t150 * x8_2)))))) + x8_2))).bind fun bt155 => (some (bt155.1, bt155.2))) else ((num_told.f (wrap64 (a0 - (wrap64 (a0 - (wrap64 (t150 * x8_2))))))).bind fun bt157 => (some (bt157.1, bt157.2)))) else (none)) else (none)) else (if 0 ≤ a2 then (if a2 < 5 then (if (rdOf false ([false, decide (a0 > 0), decide (a0 < 0), true, false] : List Bool) a2) = true then ((num_told.f (wrap64 ((wrap64 (a0 - (wrap64 (a0 - (wrap64 (t150 * x8_2)))))) + x8_2))).bind fun bt159 => (some (bt159.1, bt159.2))) else ((num_told.f (wrap64 (a0 - (wrap64 (a0 - (wrap64 (t150 * x8_2))))))).bind fun bt161 => (some (bt161.1, bt161.2)))) else (none)) else (none))))) = some (r1, r2) := H
              have A12 := Aside0.mk A120
              clear A120
              by_cases c13 : (wrap64 (a0 - (wrap64 (t150 * x8_2)))) = 0
              · rw [if_pos c13] at H
                have c13b0 : ((wrap64 (a0 - (wrap64 (t150 * x8_2)))) == 0) = true := beq_iff_eq.mpr c13
                have c13b1 : ((wrap64 (a0 - (wrap64 (t150 * x8_2)))) != 0) = false := bne_eq_false_iff_eq.mpr c13
                clear c13
                simp only [Option.some.injEq, Prod.mk.injEq] at H
                obtain ⟨rfl, rfl⟩ := H
                go_wp2_with (first | ((with_reducible refine gate_callee (f := 75) rfl ?_); refine goesL_ (some 41) rfl rfl Tryz.func75 (by kernel_rfl) rfl #[.int .i64 a0, .int .i64 x8_2] rfl (by (try simp only [List.map_toArray, List.map_cons, List.map_nil]); first | done | rfl | (simp only [List.length_drop, List.length_take]; rfl)) ?_; (with_reducible refine (num_floor.calls a0 x8_2 t150 _ A12.out).mono ?_); rintro e w' ⟨rfl, ⟨nd, rfl⟩⟩; refine ⟨_, rfl, ?_⟩))
                go_ret2
                exact ⟨by first | rfl | (simp; done) | (simp [*]; done) | (simp [Go.Proofs.YtnpcmgajplikbaaGreatDoor.X.bne_nil]; done), by repeat (first | exact Drawn0.refl _ | apply Drawn0.step)⟩
              · rw [if_neg c13] at H
                have c13b0 : ((wrap64 (a0 - (wrap64 (t150 * x8_2)))) == 0) = false := beq_eq_false_iff_ne.mpr c13
                have c13b1 : ((wrap64 (a0 - (wrap64 (t150 * x8_2)))) != 0) = true := bne_iff_ne.mpr c13
                by_cases c14 : (wrap64 (2 * (wrap64 (a0 - (wrap64 (t150 * x8_2)))))) > x8_2
                · rw [if_pos c14] at H
                  have c14b0 : decide (x8_2 < (wrap64 (2 * (wrap64 (a0 - (wrap64 (t150 * x8_2))))))) = true := decide_eq_true c14
                  clear c14
                  by_cases c15 : 0 ≤ a2
                  · rw [if_pos c15] at H
                    have c15b0 : decide (0 ≤ a2) = true := decide_eq_true c15
                    clear c15
                    by_cases c16 : a2 < 5
                    · rw [if_pos c16] at H
                      have c16b0 : decide (a2 < 5) = true := decide_eq_true c16
                      clear c16
                      obtain ⟨bq18, hbq18⟩ : ∃ b_ : Bool, b_ = ((rdOf false ([true, decide (a0 > 0), decide (a0 < 0), true, false] : List Bool) a2)) := ⟨_, rfl⟩
                      replace H : (if bq18 = true then ((num_told.f (wrap64 ((wrap64 (a0 - (wrap64 (a0 - (wrap64 (t150 * x8_2)))))) + x8_2))).bind fun bt151 => (some (bt151.1, bt151.2))) else ((num_told.f (wrap64 (a0 - (wrap64 (a0 - (wrap64 (t150 * x8_2))))))).bind fun bt153 => (some (bt153.1, bt153.2)))) = some (r1, r2) := by rw [← hbq18] at H; exact H
                      have Nbq18 := Aside0.mk hbq18
                      clear hbq18
                      by_cases c19 : bq18 = true
                      · subst c19
                        have H1 : ((num_told.f (wrap64 ((wrap64 (a0 - (wrap64 (a0 - (wrap64 (t150 * x8_2)))))) + x8_2))).bind fun bt151 => (some (bt151.1, bt151.2))) = some (r1, r2) := by rw [if_pos rfl] at H; exact H
                        clear H
                        have H := H1
                        clear H1
                        replace H := Option.bind_eq_some_iff.mp H
                        obtain ⟨⟨t151, t152⟩, A200, H⟩ := H
                        replace H : (some (t151, t152)) = some (r1, r2) := H
                        have A20 := Aside0.mk A200
                        clear A200
                        simp only [Option.some.injEq, Prod.mk.injEq] at H
                        obtain ⟨rfl, rfl⟩ := H
                        go_wp2_with (first | ((with_reducible refine gate_callee (f := 75) rfl ?_); refine goesL_ (some 41) rfl rfl Tryz.func75 (by kernel_rfl) rfl #[.int .i64 a0, .int .i64 x8_2] rfl (by (try simp only [List.map_toArray, List.map_cons, List.map_nil]); first | done | rfl | (simp only [List.length_drop, List.length_take]; rfl)) ?_; (with_reducible refine (num_floor.calls a0 x8_2 t150 _ A12.out).mono ?_); rintro e w' ⟨rfl, ⟨nd, rfl⟩⟩; refine ⟨_, rfl, ?_⟩; have p17 : 0 ≤ (a2 : Int) := of_decide_eq_true (by first | (with_reducible assumption) | assumption); have q17 : a2 < (5 : Int) := of_decide_eq_true (by first | (with_reducible assumption) | assumption); have hx17 : ∀ w_ : World, (Instr.index 80 (.agg #[.bool true, .bool (decide (a0 > 0)), .bool (decide (a0 < 0)), .bool true, .bool false]) (.int .i64 a2)).run Tryz.prog w_ = .ok (.bool (rdOf false ([true, decide (a0 > 0), decide (a0 < 0), true, false] : List Bool) a2)) w_ := fun w_ => Go.Proofs.YtnpcmgajplikbaaGreatDoor.X.run_index_array 80 4 5 _ _ _ _ (by kernel_rfl) (by kernel_rfl) (by kernel_rfl) p17 q17 (Go.Proofs.YtnpcmgajplikbaaGreatDoor.X.at_bools ([true, decide (a0 > 0), decide (a0 < 0), true, false] : List Bool) a2 q17 p17); (try rw [← Nbq18.out] at hx17); replace p17 := eq_true p17; replace q17 := eq_true q17) | ((with_reducible refine gate_callee (f := 76) rfl ?_); refine goesL_ (some 77) rfl rfl Tryz.func76 (by kernel_rfl) rfl #[.int .i64 (wrap64 ((wrap64 (a0 - (wrap64 (a0 - (wrap64 (t150 * x8_2)))))) + x8_2))] rfl (by (try simp only [List.map_toArray, List.map_cons, List.map_nil]); first | done | rfl | (simp only [List.length_drop, List.length_take]; rfl)) ?_; (with_reducible refine (num_told.calls (wrap64 ((wrap64 (a0 - (wrap64 (a0 - (wrap64 (t150 * x8_2)))))) + x8_2)) t151 t152 _ A20.out).mono ?_); rintro e w' ⟨rfl, ⟨nd, rfl⟩⟩; refine ⟨_, rfl, ?_⟩))
                        go_ret2
                        exact ⟨by first | rfl | (simp; done) | (simp [*]; done) | (simp [Go.Proofs.YtnpcmgajplikbaaGreatDoor.X.bne_nil]; done), by repeat (first | exact Drawn0.refl _ | apply Drawn0.step)⟩
                      · replace c19 := Bool.eq_false_iff.mpr c19
                        subst c19
                        have H1 : ((num_told.f (wrap64 (a0 - (wrap64 (a0 - (wrap64 (t150 * x8_2))))))).bind fun bt153 => (some (bt153.1, bt153.2))) = some (r1, r2) := by rw [if_neg (show ¬ (false = true) by decide)] at H; exact H
                        clear H
                        have H := H1
                        clear H1
                        replace H := Option.bind_eq_some_iff.mp H
                        obtain ⟨⟨t153, t154⟩, A210, H⟩ := H
                        replace H : (some (t153, t154)) = some (r1, r2) := H
                        have A21 := Aside0.mk A210
                        clear A210
                        simp only [Option.some.injEq, Prod.mk.injEq] at H
                        obtain ⟨rfl, rfl⟩ := H
                        go_wp2_with (first | ((with_reducible refine gate_callee (f := 75) rfl ?_); refine goesL_ (some 41) rfl rfl Tryz.func75 (by kernel_rfl) rfl #[.int .i64 a0, .int .i64 x8_2] rfl (by (try simp only [List.map_toArray, List.map_cons, List.map_nil]); first | done | rfl | (simp only [List.length_drop, List.length_take]; rfl)) ?_; (with_reducible refine (num_floor.calls a0 x8_2 t150 _ A12.out).mono ?_); rintro e w' ⟨rfl, ⟨nd, rfl⟩⟩; refine ⟨_, rfl, ?_⟩; have p17 : 0 ≤ (a2 : Int) := of_decide_eq_true (by first | (with_reducible assumption) | assumption); have q17 : a2 < (5 : Int) := of_decide_eq_true (by first | (with_reducible assumption) | assumption); have hx17 : ∀ w_ : World, (Instr.index 80 (.agg #[.bool true, .bool (decide (a0 > 0)), .bool (decide (a0 < 0)), .bool true, .bool false]) (.int .i64 a2)).run Tryz.prog w_ = .ok (.bool (rdOf false ([true, decide (a0 > 0), decide (a0 < 0), true, false] : List Bool) a2)) w_ := fun w_ => Go.Proofs.YtnpcmgajplikbaaGreatDoor.X.run_index_array 80 4 5 _ _ _ _ (by kernel_rfl) (by kernel_rfl) (by kernel_rfl) p17 q17 (Go.Proofs.YtnpcmgajplikbaaGreatDoor.X.at_bools ([true, decide (a0 > 0), decide (a0 < 0), true, false] : List Bool) a2 q17 p17); (try rw [← Nbq18.out] at hx17); replace p17 := eq_true p17; replace q17 := eq_true q17) | ((with_reducible refine gate_callee (f := 76) rfl ?_); refine goesL_ (some 77) rfl rfl Tryz.func76 (by kernel_rfl) rfl #[.int .i64 (wrap64 (a0 - (wrap64 (a0 - (wrap64 (t150 * x8_2))))))] rfl (by (try simp only [List.map_toArray, List.map_cons, List.map_nil]); first | done | rfl | (simp only [List.length_drop, List.length_take]; rfl)) ?_; (with_reducible refine (num_told.calls (wrap64 (a0 - (wrap64 (a0 - (wrap64 (t150 * x8_2)))))) t153 t154 _ A21.out).mono ?_); rintro e w' ⟨rfl, ⟨nd, rfl⟩⟩; refine ⟨_, rfl, ?_⟩))
                        go_ret2
                        exact ⟨by first | rfl | (simp; done) | (simp [*]; done) | (simp [Go.Proofs.YtnpcmgajplikbaaGreatDoor.X.bne_nil]; done), by repeat (first | exact Drawn0.refl _ | apply Drawn0.step)⟩
                    · rw [if_neg c16] at H
                      exact absurd H (by simp)
                  · rw [if_neg c15] at H
                    exact absurd H (by simp)
                · rw [if_neg c14] at H
                  have c14b0 : decide (x8_2 < (wrap64 (2 * (wrap64 (a0 - (wrap64 (t150 * x8_2))))))) = false := decide_eq_false c14
                  clear c14
                  by_cases c22 : (wrap64 (2 * (wrap64 (a0 - (wrap64 (t150 * x8_2)))))) = x8_2
                  · rw [if_pos c22] at H
                    have c22b0 : ((wrap64 (2 * (wrap64 (a0 - (wrap64 (t150 * x8_2)))))) == x8_2) = true := beq_iff_eq.mpr c22
                    have c22b1 : ((wrap64 (2 * (wrap64 (a0 - (wrap64 (t150 * x8_2)))))) != x8_2) = false := bne_eq_false_iff_eq.mpr c22
                    clear c22
                    by_cases c23 : 0 ≤ a2
                    · rw [if_pos c23] at H
                      have c23b0 : decide (0 ≤ a2) = true := decide_eq_true c23
                      clear c23
                      by_cases c24 : a2 < 5
                      · rw [if_pos c24] at H
                        have c24b0 : decide (a2 < 5) = true := decide_eq_true c24
                        clear c24
                        obtain ⟨bq26, hbq26⟩ : ∃ b_ : Bool, b_ = ((rdOf false ([decide (a0 > 0), decide (a0 > 0), decide (a0 < 0), true, false] : List Bool) a2)) := ⟨_, rfl⟩
                        replace H : (if bq26 = true then ((num_told.f (wrap64 ((wrap64 (a0 - (wrap64 (a0 - (wrap64 (t150 * x8_2)))))) + x8_2))).bind fun bt155 => (some (bt155.1, bt155.2))) else ((num_told.f (wrap64 (a0 - (wrap64 (a0 - (wrap64 (t150 * x8_2))))))).bind fun bt157 => (some (bt157.1, bt157.2)))) = some (r1, r2) := by rw [← hbq26] at H; exact H
                        have Nbq26 := Aside0.mk hbq26
                        clear hbq26
                        by_cases c27 : bq26 = true
                        · subst c27
                          have H1 : ((num_told.f (wrap64 ((wrap64 (a0 - (wrap64 (a0 - (wrap64 (t150 * x8_2)))))) + x8_2))).bind fun bt155 => (some (bt155.1, bt155.2))) = some (r1, r2) := by rw [if_pos rfl] at H; exact H
                          clear H
                          have H := H1
                          clear H1
                          replace H := Option.bind_eq_some_iff.mp H
                          obtain ⟨⟨t155, t156⟩, A280, H⟩ := H
                          replace H : (some (t155, t156)) = some (r1, r2) := H
                          have A28 := Aside0.mk A280
                          clear A280
                          simp only [Option.some.injEq, Prod.mk.injEq] at H
                          obtain ⟨rfl, rfl⟩ := H
                          go_wp2_with (first | ((with_reducible refine gate_callee (f := 75) rfl ?_); refine goesL_ (some 41) rfl rfl Tryz.func75 (by kernel_rfl) rfl #[.int .i64 a0, .int .i64 x8_2] rfl (by (try simp only [List.map_toArray, List.map_cons, List.map_nil]); first | done | rfl | (simp only [List.length_drop, List.length_take]; rfl)) ?_; (with_reducible refine (num_floor.calls a0 x8_2 t150 _ A12.out).mono ?_); rintro e w' ⟨rfl, ⟨nd, rfl⟩⟩; refine ⟨_, rfl, ?_⟩; have p25 : 0 ≤ (a2 : Int) := of_decide_eq_true (by first | (with_reducible assumption) | assumption); have q25 : a2 < (5 : Int) := of_decide_eq_true (by first | (with_reducible assumption) | assumption); have hx25 : ∀ w_ : World, (Instr.index 80 (.agg #[.bool (decide (a0 > 0)), .bool (decide (a0 > 0)), .bool (decide (a0 < 0)), .bool true, .bool false]) (.int .i64 a2)).run Tryz.prog w_ = .ok (.bool (rdOf false ([decide (a0 > 0), decide (a0 > 0), decide (a0 < 0), true, false] : List Bool) a2)) w_ := fun w_ => Go.Proofs.YtnpcmgajplikbaaGreatDoor.X.run_index_array 80 4 5 _ _ _ _ (by kernel_rfl) (by kernel_rfl) (by kernel_rfl) p25 q25 (Go.Proofs.YtnpcmgajplikbaaGreatDoor.X.at_bools ([decide (a0 > 0), decide (a0 > 0), decide (a0 < 0), true, false] : List Bool) a2 q25 p25); (try rw [← Nbq26.out] at hx25); replace p25 := eq_true p25; replace q25 := eq_true q25) | ((with_reducible refine gate_callee (f := 76) rfl ?_); refine goesL_ (some 77) rfl rfl Tryz.func76 (by kernel_rfl) rfl #[.int .i64 (wrap64 ((wrap64 (a0 - (wrap64 (a0 - (wrap64 (t150 * x8_2)))))) + x8_2))] rfl (by (try simp only [List.map_toArray, List.map_cons, List.map_nil]); first | done | rfl | (simp only [List.length_drop, List.length_take]; rfl)) ?_; (with_reducible refine (num_told.calls (wrap64 ((wrap64 (a0 - (wrap64 (a0 - (wrap64 (t150 * x8_2)))))) + x8_2)) t155 t156 _ A28.out).mono ?_); rintro e w' ⟨rfl, ⟨nd, rfl⟩⟩; refine ⟨_, rfl, ?_⟩))
                          go_ret2
                          exact ⟨by first | rfl | (simp; done) | (simp [*]; done) | (simp [Go.Proofs.YtnpcmgajplikbaaGreatDoor.X.bne_nil]; done), by repeat (first | exact Drawn0.refl _ | apply Drawn0.step)⟩
                        · replace c27 := Bool.eq_false_iff.mpr c27
                          subst c27
                          have H1 : ((num_told.f (wrap64 (a0 - (wrap64 (a0 - (wrap64 (t150 * x8_2))))))).bind fun bt157 => (some (bt157.1, bt157.2))) = some (r1, r2) := by rw [if_neg (show ¬ (false = true) by decide)] at H; exact H
                          clear H
                          have H := H1
                          clear H1
                          replace H := Option.bind_eq_some_iff.mp H
                          obtain ⟨⟨t157, t158⟩, A290, H⟩ := H
                          replace H : (some (t157, t158)) = some (r1, r2) := H
                          have A29 := Aside0.mk A290
                          clear A290
                          simp only [Option.some.injEq, Prod.mk.injEq] at H
                          obtain ⟨rfl, rfl⟩ := H
                          go_wp2_with (first | ((with_reducible refine gate_callee (f := 75) rfl ?_); refine goesL_ (some 41) rfl rfl Tryz.func75 (by kernel_rfl) rfl #[.int .i64 a0, .int .i64 x8_2] rfl (by (try simp only [List.map_toArray, List.map_cons, List.map_nil]); first | done | rfl | (simp only [List.length_drop, List.length_take]; rfl)) ?_; (with_reducible refine (num_floor.calls a0 x8_2 t150 _ A12.out).mono ?_); rintro e w' ⟨rfl, ⟨nd, rfl⟩⟩; refine ⟨_, rfl, ?_⟩; have p25 : 0 ≤ (a2 : Int) := of_decide_eq_true (by first | (with_reducible assumption) | assumption); have q25 : a2 < (5 : Int) := of_decide_eq_true (by first | (with_reducible assumption) | assumption); have hx25 : ∀ w_ : World, (Instr.index 80 (.agg #[.bool (decide (a0 > 0)), .bool (decide (a0 > 0)), .bool (decide (a0 < 0)), .bool true, .bool false]) (.int .i64 a2)).run Tryz.prog w_ = .ok (.bool (rdOf false ([decide (a0 > 0), decide (a0 > 0), decide (a0 < 0), true, false] : List Bool) a2)) w_ := fun w_ => Go.Proofs.YtnpcmgajplikbaaGreatDoor.X.run_index_array 80 4 5 _ _ _ _ (by kernel_rfl) (by kernel_rfl) (by kernel_rfl) p25 q25 (Go.Proofs.YtnpcmgajplikbaaGreatDoor.X.at_bools ([decide (a0 > 0), decide (a0 > 0), decide (a0 < 0), true, false] : List Bool) a2 q25 p25); (try rw [← Nbq26.out] at hx25); replace p25 := eq_true p25; replace q25 := eq_true q25) | ((with_reducible refine gate_callee (f := 76) rfl ?_); refine goesL_ (some 77) rfl rfl Tryz.func76 (by kernel_rfl) rfl #[.int .i64 (wrap64 (a0 - (wrap64 (a0 - (wrap64 (t150 * x8_2))))))] rfl (by (try simp only [List.map_toArray, List.map_cons, List.map_nil]); first | done | rfl | (simp only [List.length_drop, List.length_take]; rfl)) ?_; (with_reducible refine (num_told.calls (wrap64 (a0 - (wrap64 (a0 - (wrap64 (t150 * x8_2)))))) t157 t158 _ A29.out).mono ?_); rintro e w' ⟨rfl, ⟨nd, rfl⟩⟩; refine ⟨_, rfl, ?_⟩))
                          go_ret2
                          exact ⟨by first | rfl | (simp; done) | (simp [*]; done) | (simp [Go.Proofs.YtnpcmgajplikbaaGreatDoor.X.bne_nil]; done), by repeat (first | exact Drawn0.refl _ | apply Drawn0.step)⟩
                      · rw [if_neg c24] at H
                        exact absurd H (by simp)
                    · rw [if_neg c23] at H
                      exact absurd H (by simp)
                  · rw [if_neg c22] at H
                    have c22b0 : ((wrap64 (2 * (wrap64 (a0 - (wrap64 (t150 * x8_2)))))) == x8_2) = false := beq_eq_false_iff_ne.mpr c22
                    have c22b1 : ((wrap64 (2 * (wrap64 (a0 - (wrap64 (t150 * x8_2)))))) != x8_2) = true := bne_iff_ne.mpr c22
                    by_cases c30 : 0 ≤ a2
                    · rw [if_pos c30] at H
                      have c30b0 : decide (0 ≤ a2) = true := decide_eq_true c30
                      clear c30
                      by_cases c31 : a2 < 5
                      · rw [if_pos c31] at H
                        have c31b0 : decide (a2 < 5) = true := decide_eq_true c31
                        clear c31
                        obtain ⟨bq33, hbq33⟩ : ∃ b_ : Bool, b_ = ((rdOf false ([false, decide (a0 > 0), decide (a0 < 0), true, false] : List Bool) a2)) := ⟨_, rfl⟩
                        replace H : (if bq33 = true then ((num_told.f (wrap64 ((wrap64 (a0 - (wrap64 (a0 - (wrap64 (t150 * x8_2)))))) + x8_2))).bind fun bt159 => (some (bt159.1, bt159.2))) else ((num_told.f (wrap64 (a0 - (wrap64 (a0 - (wrap64 (t150 * x8_2))))))).bind fun bt161 => (some (bt161.1, bt161.2)))) = some (r1, r2) := by rw [← hbq33] at H; exact H
                        have Nbq33 := Aside0.mk hbq33
                        clear hbq33
                        by_cases c34 : bq33 = true
                        · subst c34
                          have H1 : ((num_told.f (wrap64 ((wrap64 (a0 - (wrap64 (a0 - (wrap64 (t150 * x8_2)))))) + x8_2))).bind fun bt159 => (some (bt159.1, bt159.2))) = some (r1, r2) := by rw [if_pos rfl] at H; exact H
                          clear H
                          have H := H1
                          clear H1
                          replace H := Option.bind_eq_some_iff.mp H
                          obtain ⟨⟨t159, t160⟩, A350, H⟩ := H
                          replace H : (some (t159, t160)) = some (r1, r2) := H
                          have A35 := Aside0.mk A350
                          clear A350
                          simp only [Option.some.injEq, Prod.mk.injEq] at H
                          obtain ⟨rfl, rfl⟩ := H
                          go_wp2_with (first | ((with_reducible refine gate_callee (f := 75) rfl ?_); refine goesL_ (some 41) rfl rfl Tryz.func75 (by kernel_rfl) rfl #[.int .i64 a0, .int .i64 x8_2] rfl (by (try simp only [List.map_toArray, List.map_cons, List.map_nil]); first | done | rfl | (simp only [List.length_drop, List.length_take]; rfl)) ?_; (with_reducible refine (num_floor.calls a0 x8_2 t150 _ A12.out).mono ?_); rintro e w' ⟨rfl, ⟨nd, rfl⟩⟩; refine ⟨_, rfl, ?_⟩; have p32 : 0 ≤ (a2 : Int) := of_decide_eq_true (by first | (with_reducible assumption) | assumption); have q32 : a2 < (5 : Int) := of_decide_eq_true (by first | (with_reducible assumption) | assumption); have hx32 : ∀ w_ : World, (Instr.index 80 (.agg #[.bool false, .bool (decide (a0 > 0)), .bool (decide (a0 < 0)), .bool true, .bool false]) (.int .i64 a2)).run Tryz.prog w_ = .ok (.bool (rdOf false ([false, decide (a0 > 0), decide (a0 < 0), true, false] : List Bool) a2)) w_ := fun w_ => Go.Proofs.YtnpcmgajplikbaaGreatDoor.X.run_index_array 80 4 5 _ _ _ _ (by kernel_rfl) (by kernel_rfl) (by kernel_rfl) p32 q32 (Go.Proofs.YtnpcmgajplikbaaGreatDoor.X.at_bools ([false, decide (a0 > 0), decide (a0 < 0), true, false] : List Bool) a2 q32 p32); (try rw [← Nbq33.out] at hx32); replace p32 := eq_true p32; replace q32 := eq_true q32) | ((with_reducible refine gate_callee (f := 76) rfl ?_); refine goesL_ (some 77) rfl rfl Tryz.func76 (by kernel_rfl) rfl #[.int .i64 (wrap64 ((wrap64 (a0 - (wrap64 (a0 - (wrap64 (t150 * x8_2)))))) + x8_2))] rfl (by (try simp only [List.map_toArray, List.map_cons, List.map_nil]); first | done | rfl | (simp only [List.length_drop, List.length_take]; rfl)) ?_; (with_reducible refine (num_told.calls (wrap64 ((wrap64 (a0 - (wrap64 (a0 - (wrap64 (t150 * x8_2)))))) + x8_2)) t159 t160 _ A35.out).mono ?_); rintro e w' ⟨rfl, ⟨nd, rfl⟩⟩; refine ⟨_, rfl, ?_⟩))
                          go_ret2
                          exact ⟨by first | rfl | (simp; done) | (simp [*]; done) | (simp [Go.Proofs.YtnpcmgajplikbaaGreatDoor.X.bne_nil]; done), by repeat (first | exact Drawn0.refl _ | apply Drawn0.step)⟩
                        · replace c34 := Bool.eq_false_iff.mpr c34
                          subst c34
                          have H1 : ((num_told.f (wrap64 (a0 - (wrap64 (a0 - (wrap64 (t150 * x8_2))))))).bind fun bt161 => (some (bt161.1, bt161.2))) = some (r1, r2) := by rw [if_neg (show ¬ (false = true) by decide)] at H; exact H
                          clear H
                          have H := H1
                          clear H1
                          replace H := Option.bind_eq_some_iff.mp H
                          obtain ⟨⟨t161, t162⟩, A360, H⟩ := H
                          replace H : (some (t161, t162)) = some (r1, r2) := H
                          have A36 := Aside0.mk A360
                          clear A360
                          simp only [Option.some.injEq, Prod.mk.injEq] at H
                          obtain ⟨rfl, rfl⟩ := H
                          go_wp2_with (first | ((with_reducible refine gate_callee (f := 75) rfl ?_); refine goesL_ (some 41) rfl rfl Tryz.func75 (by kernel_rfl) rfl #[.int .i64 a0, .int .i64 x8_2] rfl (by (try simp only [List.map_toArray, List.map_cons, List.map_nil]); first | done | rfl | (simp only [List.length_drop, List.length_take]; rfl)) ?_; (with_reducible refine (num_floor.calls a0 x8_2 t150 _ A12.out).mono ?_); rintro e w' ⟨rfl, ⟨nd, rfl⟩⟩; refine ⟨_, rfl, ?_⟩; have p32 : 0 ≤ (a2 : Int) := of_decide_eq_true (by first | (with_reducible assumption) | assumption); have q32 : a2 < (5 : Int) := of_decide_eq_true (by first | (with_reducible assumption) | assumption); have hx32 : ∀ w_ : World, (Instr.index 80 (.agg #[.bool false, .bool (decide (a0 > 0)), .bool (decide (a0 < 0)), .bool true, .bool false]) (.int .i64 a2)).run Tryz.prog w_ = .ok (.bool (rdOf false ([false, decide (a0 > 0), decide (a0 < 0), true, false] : List Bool) a2)) w_ := fun w_ => Go.Proofs.YtnpcmgajplikbaaGreatDoor.X.run_index_array 80 4 5 _ _ _ _ (by kernel_rfl) (by kernel_rfl) (by kernel_rfl) p32 q32 (Go.Proofs.YtnpcmgajplikbaaGreatDoor.X.at_bools ([false, decide (a0 > 0), decide (a0 < 0), true, false] : List Bool) a2 q32 p32); (try rw [← Nbq33.out] at hx32); replace p32 := eq_true p32; replace q32 := eq_true q32) | ((with_reducible refine gate_callee (f := 76) rfl ?_); refine goesL_ (some 77) rfl rfl Tryz.func76 (by kernel_rfl) rfl #[.int .i64 (wrap64 (a0 - (wrap64 (a0 - (wrap64 (t150 * x8_2))))))] rfl (by (try simp only [List.map_toArray, List.map_cons, List.map_nil]); first | done | rfl | (simp only [List.length_drop, List.length_take]; rfl)) ?_; (with_reducible refine (num_told.calls (wrap64 (a0 - (wrap64 (a0 - (wrap64 (t150 * x8_2)))))) t161 t162 _ A36.out).mono ?_); rintro e w' ⟨rfl, ⟨nd, rfl⟩⟩; refine ⟨_, rfl, ?_⟩))
                          go_ret2
                          exact ⟨by first | rfl | (simp; done) | (simp [*]; done) | (simp [Go.Proofs.YtnpcmgajplikbaaGreatDoor.X.bne_nil]; done), by repeat (first | exact Drawn0.refl _ | apply Drawn0.step)⟩
                      · rw [if_neg c31] at H
                        exact absurd H (by simp)
                    · rw [if_neg c30] at H
                      exact absurd H (by simp)

/-! ### octavoref05_floor: function 102 -/
def octavoref05_floor.f (a0 : Int) (a1 : Int) : Option (Int) := if a1 = 0 then (none) else (if (Int.tmod a0 a1) = 0 then (some (wrap64 (Int.tdiv a0 a1))) else (if ((decide (a0 < 0)) != (decide (a1 < 0))) = true then (some (wrap64 ((wrap64 (Int.tdiv a0 a1)) - 1))) else (some (wrap64 (Int.tdiv a0 a1)))))
set_option maxHeartbeats 8000000 in
set_option maxRecDepth 100000 in
theorem octavoref05_floor.calls (a0 : Int) (a1 : Int) (r : Int) (w : World) (h : octavoref05_floor.f a0 a1 = some r) :
    Calls Tryz.prog 102 #[.int .i64 a0, .int .i64 a1] w fun e w' => e = .returned (.int .i64 r) ∧ Drawn0 w w' := by
  have H : (if a1 = 0 then (none) else (if (Int.tmod a0 a1) = 0 then (some (wrap64 (Int.tdiv a0 a1))) else (if ((decide (a0 < 0)) != (decide (a1 < 0))) = true then (some (wrap64 ((wrap64 (Int.tdiv a0 a1)) - 1))) else (some (wrap64 (Int.tdiv a0 a1)))))) = some r := h
  clear h
  by_cases c3 : a1 = 0
  · rw [if_pos c3] at H
    exact absurd H (by simp)
  · rw [if_neg c3] at H
    have c3b0 : (a1 == 0) = false := beq_eq_false_iff_ne.mpr c3
    have c3b1 : (a1 != 0) = true := bne_iff_ne.mpr c3
    by_cases c4 : (Int.tmod a0 a1) = 0
    · rw [if_pos c4] at H
      have c4b0 : ((Int.tmod a0 a1) == 0) = true := beq_iff_eq.mpr c4
      have c4b1 : ((Int.tmod a0 a1) != 0) = false := bne_eq_false_iff_eq.mpr c4
      clear c4
      obtain rfl := Option.some.inj H
      go_enter Tryz.func102, Tryz.ntmps102
      go_wp2
      go_ret
      exact ⟨by first | rfl | (simp; done) | (simp [*]; done) | (simp [Go.Proofs.YtnpcmgajplikbaaGreatDoor.X.bne_nil]; done), by repeat (first | exact Drawn0.refl _ | apply Drawn0.step)⟩
    · rw [if_neg c4] at H
      have c4b0 : ((Int.tmod a0 a1) == 0) = false := beq_eq_false_iff_ne.mpr c4
      have c4b1 : ((Int.tmod a0 a1) != 0) = true := bne_iff_ne.mpr c4
      by_cases c5 : ((decide (a0 < 0)) != (decide (a1 < 0))) = true
      · rw [if_pos c5] at H
        have c5b0 : ((decide (a0 < 0)) != (decide (a1 < 0))) = true := c5
        (try (have c5b1 : decide ((decide (a0 < 0)) = (decide (a1 < 0))) = false := by simpa using c5))
        (try (have c5b2 : ((decide (a0 < 0)) == (decide (a1 < 0))) = false := by simpa using c5))
        (try (have c5b3 : ¬ ((decide (a0 < 0)) = (decide (a1 < 0))) := by simpa using c5))
        clear c5
        obtain rfl := Option.some.inj H
        go_enter Tryz.func102, Tryz.ntmps102
        go_wp2
        go_ret
        exact ⟨by first | rfl | (simp; done) | (simp [*]; done) | (simp [Go.Proofs.YtnpcmgajplikbaaGreatDoor.X.bne_nil]; done), by repeat (first | exact Drawn0.refl _ | apply Drawn0.step)⟩
      · rw [if_neg c5] at H
        have c5b0 : ((decide (a0 < 0)) != (decide (a1 < 0))) = false := by simpa using c5
        (try (have c5b1 : decide ((decide (a0 < 0)) = (decide (a1 < 0))) = true := by simpa using c5))
        (try (have c5b2 : ((decide (a0 < 0)) == (decide (a1 < 0))) = true := by simpa using c5))
        clear c5
        obtain rfl := Option.some.inj H
        go_enter Tryz.func102, Tryz.ntmps102
        go_wp2
        go_ret
        exact ⟨by first | rfl | (simp; done) | (simp [*]; done) | (simp [Go.Proofs.YtnpcmgajplikbaaGreatDoor.X.bne_nil]; done), by repeat (first | exact Drawn0.refl _ | apply Drawn0.step)⟩

/-! ### octavoref06_Bad: function 27 -/
def octavoref06_Bad.f (a0 : Int) : Option (Int × Int × ByteArray) := if a0 < 1 then (some (4, 2, (⟨#[]⟩ : ByteArray))) else (if a0 > 8 then (some (4, 2, (⟨#[]⟩ : ByteArray))) else (some (4, a0, (⟨#[]⟩ : ByteArray))))
set_option maxHeartbeats 8000000 in
set_option maxRecDepth 100000 in
theorem octavoref06_Bad.calls (a0 : Int) (r1 : Int) (r2 : Int) (r3 : ByteArray) (w : World) (h : octavoref06_Bad.f a0 = some (r1, r2, r3)) :
    Calls Tryz.prog 27 #[.int .i64 a0] w fun e w' => e = .returned (.agg #[.int .i64 r1, .int .i64 r2, .string r3]) ∧ Below w.heap.size w w' := by
  have hu26 := Tryz.underlying26
  have HB := Aside0.mk (Below.refl w.heap.size w)
  have H : (if a0 < 1 then (some (4, 2, (⟨#[]⟩ : ByteArray))) else (if a0 > 8 then (some (4, 2, (⟨#[]⟩ : ByteArray))) else (some (4, a0, (⟨#[]⟩ : ByteArray))))) = some (r1, r2, r3) := h
  clear h
  by_cases c2 : a0 < 1
  · rw [if_pos c2] at H
    have c2b0 : decide (a0 < 1) = true := decide_eq_true c2
    clear c2
    simp only [Option.some.injEq, Prod.mk.injEq] at H
    obtain ⟨rfl, rfl, rfl⟩ := H
    go_enter Tryz.func27, Tryz.ntmps27
    go_wp2_with (first | ((with_reducible refine gate_dst (N := 2) rfl ?_); refine box_event ?hg (N := 2) ?hd (cs := #[.int .i64 0, .int .i64 0, .string (⟨#[]⟩ : ByteArray)]) (t := 26) ?hr ?_; (case hd => rfl); (case hg => rfl); (case hr => first | (go_simp; done) | (go_simp; rfl)); intro gb163 hg w3 hbox hb; have n0_ := Aside0.mk (below_step (by repeat (first | (with_reducible first | exact HB.out | apply below_alloc | apply pw_below_drewN | apply below_drew1) | exact HB.out)) hb); have n1_ := Aside0.mk (hbox); have n2_ := Aside0.mk ((by rw [hg]; exact (below_size (by repeat (first | (with_reducible first | exact HB.out | apply below_alloc | apply pw_below_drewN | apply below_drew1) | exact HB.out))) : w.heap.size ≤ gb163)); have n3_ := Aside0.mk ((by rw [hg]; exact (below_size (by repeat (first | (with_reducible first | exact HB.out | apply below_alloc | apply pw_below_drewN | apply below_drew1) | exact HB.out))) : w.heap.size ≤ gb163)); clear HB; have HB := n0_; have BK163 := n1_; have GW163 := n2_; have GE163 := n3_; clear n0_ n1_ n2_ n3_; clear hb hbox hg; have hcz4_0 : w3.cell? ⟨gb163, 0, none⟩ = some (.int .i64 0) := (blk_cell BK163.out 0).trans rfl; have hcz4_1 : w3.cell? ⟨gb163, 1, none⟩ = some (.int .i64 0) := (blk_cell BK163.out 1).trans rfl; have hcz4_2 : w3.cell? ⟨gb163, 2, none⟩ = some (.string (⟨#[]⟩ : ByteArray)) := (blk_cell BK163.out 2).trans rfl; have hfz4_0 := blk_frozen BK163.out 0; have hfz4_1 := blk_frozen BK163.out 1; have hfz4_2 := blk_frozen BK163.out 2))
    refine bodyPost_ret (results_cell_row rfl _ _ gb163 26 #[.int .i64 4, .int .i64 2, .string (⟨#[]⟩ : ByteArray)] (0, 0) _ rfl (by (with_reducible repeat (first | refine blk_drewN ?_ _ | refine blk_drew ?_ | refine blk_alloc ?_ _)); refine blk_put (cs := #[.int .i64 4, .int .i64 2, .string (⟨#[]⟩ : ByteArray)]) ?_ 2 _ rfl; (with_reducible repeat (first | refine blk_drewN ?_ _ | refine blk_drew ?_ | refine blk_alloc ?_ _)); refine blk_put (cs := #[.int .i64 4, .int .i64 0, .string (⟨#[]⟩ : ByteArray)]) ?_ 1 _ rfl; (with_reducible repeat (first | refine blk_drewN ?_ _ | refine blk_drew ?_ | refine blk_alloc ?_ _)); refine blk_put (cs := #[.int .i64 0, .int .i64 0, .string (⟨#[]⟩ : ByteArray)]) ?_ 0 _ rfl; (with_reducible repeat (first | refine blk_drewN ?_ _ | refine blk_drew ?_ | refine blk_alloc ?_ _)); exact BK163.out) Tryz.underlying26 rfl (by kernel_rfl)) rfl ?_
    exact ⟨by first | rfl | (simp [errW_none, errW_some] <;> rfl) | (simp [*, errW_none, errW_some] <;> rfl), by repeat (first | (with_reducible first | exact HB.out | apply below_alloc | apply pw_below_drewN | apply below_drew1 | refine below_set ?_ GE163.out) | exact HB.out)⟩
  · rw [if_neg c2] at H
    have c2b0 : decide (a0 < 1) = false := decide_eq_false c2
    clear c2
    by_cases c5 : a0 > 8
    · rw [if_pos c5] at H
      have c5b0 : decide (8 < a0) = true := decide_eq_true c5
      clear c5
      simp only [Option.some.injEq, Prod.mk.injEq] at H
      obtain ⟨rfl, rfl, rfl⟩ := H
      go_enter Tryz.func27, Tryz.ntmps27
      go_wp2_with (first | ((with_reducible refine gate_dst (N := 2) rfl ?_); refine box_event ?hg (N := 2) ?hd (cs := #[.int .i64 0, .int .i64 0, .string (⟨#[]⟩ : ByteArray)]) (t := 26) ?hr ?_; (case hd => rfl); (case hg => rfl); (case hr => first | (go_simp; done) | (go_simp; rfl)); intro gb163 hg w6 hbox hb; have n0_ := Aside0.mk (below_step (by repeat (first | (with_reducible first | exact HB.out | apply below_alloc | apply pw_below_drewN | apply below_drew1) | exact HB.out)) hb); have n1_ := Aside0.mk (hbox); have n2_ := Aside0.mk ((by rw [hg]; exact (below_size (by repeat (first | (with_reducible first | exact HB.out | apply below_alloc | apply pw_below_drewN | apply below_drew1) | exact HB.out))) : w.heap.size ≤ gb163)); have n3_ := Aside0.mk ((by rw [hg]; exact (below_size (by repeat (first | (with_reducible first | exact HB.out | apply below_alloc | apply pw_below_drewN | apply below_drew1) | exact HB.out))) : w.heap.size ≤ gb163)); clear HB; have HB := n0_; have BK163 := n1_; have GW163 := n2_; have GE163 := n3_; clear n0_ n1_ n2_ n3_; clear hb hbox hg; have hcz7_0 : w6.cell? ⟨gb163, 0, none⟩ = some (.int .i64 0) := (blk_cell BK163.out 0).trans rfl; have hcz7_1 : w6.cell? ⟨gb163, 1, none⟩ = some (.int .i64 0) := (blk_cell BK163.out 1).trans rfl; have hcz7_2 : w6.cell? ⟨gb163, 2, none⟩ = some (.string (⟨#[]⟩ : ByteArray)) := (blk_cell BK163.out 2).trans rfl; have hfz7_0 := blk_frozen BK163.out 0; have hfz7_1 := blk_frozen BK163.out 1; have hfz7_2 := blk_frozen BK163.out 2))
      refine bodyPost_ret (results_cell_row rfl _ _ gb163 26 #[.int .i64 4, .int .i64 2, .string (⟨#[]⟩ : ByteArray)] (0, 0) _ rfl (by (with_reducible repeat (first | refine blk_drewN ?_ _ | refine blk_drew ?_ | refine blk_alloc ?_ _)); refine blk_put (cs := #[.int .i64 4, .int .i64 2, .string (⟨#[]⟩ : ByteArray)]) ?_ 2 _ rfl; (with_reducible repeat (first | refine blk_drewN ?_ _ | refine blk_drew ?_ | refine blk_alloc ?_ _)); refine blk_put (cs := #[.int .i64 4, .int .i64 0, .string (⟨#[]⟩ : ByteArray)]) ?_ 1 _ rfl; (with_reducible repeat (first | refine blk_drewN ?_ _ | refine blk_drew ?_ | refine blk_alloc ?_ _)); refine blk_put (cs := #[.int .i64 0, .int .i64 0, .string (⟨#[]⟩ : ByteArray)]) ?_ 0 _ rfl; (with_reducible repeat (first | refine blk_drewN ?_ _ | refine blk_drew ?_ | refine blk_alloc ?_ _)); exact BK163.out) Tryz.underlying26 rfl (by kernel_rfl)) rfl ?_
      exact ⟨by first | rfl | (simp [errW_none, errW_some] <;> rfl) | (simp [*, errW_none, errW_some] <;> rfl), by repeat (first | (with_reducible first | exact HB.out | apply below_alloc | apply pw_below_drewN | apply below_drew1 | refine below_set ?_ GE163.out) | exact HB.out)⟩
    · rw [if_neg c5] at H
      have c5b0 : decide (8 < a0) = false := decide_eq_false c5
      clear c5
      simp only [Option.some.injEq, Prod.mk.injEq] at H
      obtain ⟨rfl, rfl, rfl⟩ := H
      go_enter Tryz.func27, Tryz.ntmps27
      go_wp2_with (first | ((with_reducible refine gate_dst (N := 2) rfl ?_); refine box_event ?hg (N := 2) ?hd (cs := #[.int .i64 0, .int .i64 0, .string (⟨#[]⟩ : ByteArray)]) (t := 26) ?hr ?_; (case hd => rfl); (case hg => rfl); (case hr => first | (go_simp; done) | (go_simp; rfl)); intro gb163 hg w8 hbox hb; have n0_ := Aside0.mk (below_step (by repeat (first | (with_reducible first | exact HB.out | apply below_alloc | apply pw_below_drewN | apply below_drew1) | exact HB.out)) hb); have n1_ := Aside0.mk (hbox); have n2_ := Aside0.mk ((by rw [hg]; exact (below_size (by repeat (first | (with_reducible first | exact HB.out | apply below_alloc | apply pw_below_drewN | apply below_drew1) | exact HB.out))) : w.heap.size ≤ gb163)); have n3_ := Aside0.mk ((by rw [hg]; exact (below_size (by repeat (first | (with_reducible first | exact HB.out | apply below_alloc | apply pw_below_drewN | apply below_drew1) | exact HB.out))) : w.heap.size ≤ gb163)); clear HB; have HB := n0_; have BK163 := n1_; have GW163 := n2_; have GE163 := n3_; clear n0_ n1_ n2_ n3_; clear hb hbox hg; have hcz9_0 : w8.cell? ⟨gb163, 0, none⟩ = some (.int .i64 0) := (blk_cell BK163.out 0).trans rfl; have hcz9_1 : w8.cell? ⟨gb163, 1, none⟩ = some (.int .i64 0) := (blk_cell BK163.out 1).trans rfl; have hcz9_2 : w8.cell? ⟨gb163, 2, none⟩ = some (.string (⟨#[]⟩ : ByteArray)) := (blk_cell BK163.out 2).trans rfl; have hfz9_0 := blk_frozen BK163.out 0; have hfz9_1 := blk_frozen BK163.out 1; have hfz9_2 := blk_frozen BK163.out 2))
      refine bodyPost_ret (results_cell_row rfl _ _ gb163 26 #[.int .i64 4, .int .i64 a0, .string (⟨#[]⟩ : ByteArray)] (0, 0) _ rfl (by (with_reducible repeat (first | refine blk_drewN ?_ _ | refine blk_drew ?_ | refine blk_alloc ?_ _)); refine blk_put (cs := #[.int .i64 4, .int .i64 a0, .string (⟨#[]⟩ : ByteArray)]) ?_ 2 _ rfl; (with_reducible repeat (first | refine blk_drewN ?_ _ | refine blk_drew ?_ | refine blk_alloc ?_ _)); refine blk_put (cs := #[.int .i64 4, .int .i64 0, .string (⟨#[]⟩ : ByteArray)]) ?_ 1 _ rfl; (with_reducible repeat (first | refine blk_drewN ?_ _ | refine blk_drew ?_ | refine blk_alloc ?_ _)); refine blk_put (cs := #[.int .i64 0, .int .i64 0, .string (⟨#[]⟩ : ByteArray)]) ?_ 0 _ rfl; (with_reducible repeat (first | refine blk_drewN ?_ _ | refine blk_drew ?_ | refine blk_alloc ?_ _)); exact BK163.out) Tryz.underlying26 rfl (by kernel_rfl)) rfl ?_
      exact ⟨by first | rfl | (simp [errW_none, errW_some] <;> rfl) | (simp [*, errW_none, errW_some] <;> rfl), by repeat (first | (with_reducible first | exact HB.out | apply below_alloc | apply pw_below_drewN | apply below_drew1 | refine below_set ?_ GE163.out) | exact HB.out)⟩

end Go.Proofs.YtnpcmgajplikbaaGreatDoor.P
