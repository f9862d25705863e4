-- Written by a program of this session (wip/tools/xprint.py), out of the seat's translation. Not trusted: Lean checks it.
import Derived.Test.YtnpcmgajplikbaaGreatDoorPx0
import Derived.Test.YtnpcmgajplikbaaGreatDoorPx1
namespace Go.Proofs.YtnpcmgajplikbaaGreatDoor.P
open Go.RowKit Go.Proofs.YtnpcmgajplikbaaGreatDoorW.PrintWords Go.Proofs.YtnpcmgajplikbaaGreatDoorW.PrintLast Go.Proofs.YtnpcmgajplikbaaGreatDoorW.PrintMore
attribute [local go_sem] max2_int min2_int max_two min_two max_three min_three max_four min_four X.binOp_str_gtr X.binOp_str_leq   -- for this text's walks alone
set_option linter.unusedVariables false
set_option linter.unusedSimpArgs false

/-! ### num_count: function 135 -/
def num_count.f (a0 : ByteArray) (a1 : Int) (a2 : Int) : Option (Int × Bool) := some (match X.cntf a0.data.toList 0 with | none => (0, false) | some n => (n, decide (a1 ≤ (a0.size : Int)) && decide ((a0.size : Int) ≤ a2)))
set_option maxHeartbeats 8000000 in
set_option maxRecDepth 1000000 in
theorem num_count.calls (a0 : ByteArray) (a1 : Int) (a2 : Int) (r1 : Int) (r2 : Bool) (w : World) (h : num_count.f a0 a1 a2 = some (r1, r2)) :
    Calls Tryz.prog 135 #[.string a0, .int .i64 a1, .int .i64 a2] w fun e w' => e = .returned (.tuple #[.int .i64 r1, .bool r2]) ∧ Below w.heap.size w w' := by
  have HR := Aside0.mk h
  clear h
  go_enter Tryz.func135, Tryz.ntmps135
  go_wp2
  go_loopw [8] (fun v8 w' => ∃ (pos : Nat) (n : Int), w' = w.iter a0 pos ∧ v8 = .int .i64 n ∧ Aside0 (0 ≤ n ∧ n ≤ 1125899906842624) ∧ Aside0 (X.cntf (a0.data.toList.drop pos) n = X.cntf a0.data.toList 0)) (fun _ w' => a0.size - w'.iterPos w.heap.size)
  case atStart => exact ⟨0, 0, rfl, rfl, ⟨by omega, by omega⟩, ⟨rfl⟩⟩
  case round =>
    obtain ⟨pos, n, rfl, rfl, HN, HC⟩ := hrel
    have n0 := HN.out.1
    have n1 := HN.out.2
    by_cases hp : pos < a0.size
    · have hd := HC.out
      rw [X.drop_get a0 pos hp] at hd
      simp only [X.cntf] at hd
      have hlt := (a0[pos]'hp).toNat_lt
      by_cases hc : (a0[pos]'hp).toNat < 128
      · have hnx : ∀ ty, (Instr.next (.pointer (some ⟨w.heap.size, 0, none⟩)) true ty).run Tryz.prog (w.iter a0 pos) = _ := fun ty => run_next_ascii w a0 pos ty hp hc
        generalize hg : ((a0[pos]'hp).toNat : Int) = c at *
        have hc2 : c < 128 := by omega
        have hc0 : 0 ≤ c := by omega
        clear hlt hc
        by_cases b1 : c < 48
        · rw [if_pos (.inl b1)] at hd
          have b1b : decide (c < 48) = true := decide_eq_true b1
          have hr := HR.out
          unfold num_count.f at hr
          rw [← hd] at hr
          simp only [Option.some.injEq, Prod.mk.injEq] at hr
          have Hr := Aside0.mk hr
          clear hr hd b1
          clear hg
          go_wp2
          go_ret2
          exact ⟨by rw [← Hr.out.1, ← Hr.out.2]; rfl, X.below_iter (Below.refl _ _) (Nat.le_refl _) _ _⟩
        · have b1b : decide (c < 48) = false := decide_eq_false b1
          by_cases b2 : 57 < c
          · rw [if_pos (.inr b2)] at hd
            have b2b : decide (57 < c) = true := decide_eq_true b2
            have hr := HR.out
            unfold num_count.f at hr
            rw [← hd] at hr
            simp only [Option.some.injEq, Prod.mk.injEq] at hr
            have Hr := Aside0.mk hr
            clear hr hd b1 b2
            clear hg
            go_wp2
            go_ret2
            exact ⟨by rw [← Hr.out.1, ← Hr.out.2]; rfl, X.below_iter (Below.refl _ _) (Nat.le_refl _) _ _⟩
          · have b2b : decide (57 < c) = false := decide_eq_false b2
            rw [if_neg (by omega)] at hd
            have b3 : 48 ≤ c := by omega
            have b4 : c ≤ 57 := by omega
            by_cases b5 : 10 * n + (c - 48) > 1125899906842624
            · rw [if_pos b5] at hd
              have b5b : decide (1125899906842624 < 10 * n + (c - 48)) = true := decide_eq_true b5
              have Hd := Aside0.mk hd
              clear hd b5 hg b1 b2
              go_wp2
              go_roundw
              case rel => exact ⟨pos + 1, _, rfl, rfl, ⟨by omega, by omega⟩, Hd⟩
              case measure => simp; omega
            · rw [if_neg b5] at hd
              have b5b : decide (1125899906842624 < 10 * n + (c - 48)) = false := decide_eq_false b5
              have Hd := Aside0.mk hd
              have b6 : 10 * n + (c - 48) ≤ 1125899906842624 := by omega
              clear hd b5 hg b1 b2
              go_wp2
              go_roundw
              case rel => exact ⟨pos + 1, _, rfl, rfl, ⟨by omega, by omega⟩, Hd⟩
              case measure => simp; omega
      · have hnx : ∀ ty, (Instr.next (.pointer (some ⟨w.heap.size, 0, none⟩)) true ty).run Tryz.prog (w.iter a0 pos) = _ := fun ty => run_next_any w a0 pos ty hp
        have hh := (decode_high a0 pos hp (by omega)).1
        rw [if_pos (.inr (by omega))] at hd
        have hr := HR.out
        unfold num_count.f at hr
        rw [← hd] at hr
        simp only [Option.some.injEq, Prod.mk.injEq] at hr
        have Hr := Aside0.mk hr
        generalize hgd : Utf8.decode a0 pos = D at *
        obtain ⟨rn, wd⟩ := D
        simp only at hh
        have b1b : decide ((rn : Int) < 48) = false := decide_eq_false (by omega)
        have b2b : decide (57 < (rn : Int)) = true := decide_eq_true (by omega)
        clear hr hd hgd hh hlt hc
        go_wp2
        go_ret2
        exact ⟨by rw [← Hr.out.1, ← Hr.out.2]; rfl, X.below_iter (Below.refl _ _) (Nat.le_refl _) _ _⟩
    · have hnx : ∀ ty, (Instr.next (.pointer (some ⟨w.heap.size, 0, none⟩)) true ty).run Tryz.prog (w.iter a0 pos) = _ := fun ty => run_next_end w a0 pos ty hp
      have hd := HC.out
      rw [List.drop_of_length_le (by simpa using hp)] at hd
      simp only [X.cntf] at hd
      have hr := HR.out
      unfold num_count.f at hr
      rw [← hd] at hr
      simp only [Option.some.injEq, Prod.mk.injEq] at hr
      have Hr := Aside0.mk hr
      clear hr hd
      by_cases c1 : a1 ≤ (a0.size : Int)
      · have c1b : decide (a1 ≤ (a0.size : Int)) = true := decide_eq_true c1
        by_cases c2 : (a0.size : Int) ≤ a2
        · have c2b : decide ((a0.size : Int) ≤ a2) = true := decide_eq_true c2
          clear c1 c2 hp
          go_wp2
          go_ret2
          exact ⟨by rw [← Hr.out.1, ← Hr.out.2]; simp [c1b, c2b], X.below_iter (Below.refl _ _) (Nat.le_refl _) _ _⟩
        · have c2b : decide ((a0.size : Int) ≤ a2) = false := decide_eq_false c2
          clear c1 c2 hp
          go_wp2
          go_ret2
          exact ⟨by rw [← Hr.out.1, ← Hr.out.2]; simp [c1b, c2b], X.below_iter (Below.refl _ _) (Nat.le_refl _) _ _⟩
      · have c1b : decide (a1 ≤ (a0.size : Int)) = false := decide_eq_false c1
        clear c1 hp
        go_wp2
        go_ret2
        exact ⟨by rw [← Hr.out.1, ← Hr.out.2]; simp [c1b], X.below_iter (Below.refl _ _) (Nat.le_refl _) _ _⟩
/-! ### num_Parse: function 128 -/
mutual
def num_Parse.j0 : Nat → Bool → ByteArray → Int → Int → Bool → Option (Int × Bool)
  | 0, _, _, _, _, _ => none
  | k + 1, x4, x6, x8, x10, x41 => if x41 = true then (some (0, false)) else (num_Parse.l0 k x4 x8 x10 (wrap64 (4 - (x6.size : Int))) 0)
def num_Parse.l0 : Nat → Bool → Int → Int → Int → Int → Option (Int × Bool)
  | 0, _, _, _, _, _ => none
  | k + 1, x4, x8, x10, x44, x45 => if x45 < x44 then (num_Parse.l0 k x4 x8 (wrap64 (x10 * 10)) x44 (wrap64 (x45 + 1))) else (if x4 = true then ((num_told.f (wrap64 (-(wrap64 ((wrap64 (x8 * 10000)) + x10))))).bind fun bt145 => (some (bt145.1, bt145.2))) else ((num_told.f (wrap64 ((wrap64 (x8 * 10000)) + x10))).bind fun bt147 => (some (bt147.1, bt147.2))))
end
def num_Parse.f (k : Nat) (a0 : ByteArray) : Option (Int × Bool) := (strings_CutPrefix.f a0 (⟨#[45]⟩ : ByteArray)).bind fun bt136 => ((strings_Cut.f k bt136.1 (⟨#[46]⟩ : ByteArray)).bind fun bt138 => ((num_count.f bt138.1 1 12).bind fun bt141 => ((num_count.f bt138.2.1 1 4).bind fun bt143 => (if bt141.2 = true then (if bt138.2.2 = true then (num_Parse.j0 k bt136.2 bt138.2.1 bt141.1 bt143.1 (!bt143.2)) else (num_Parse.j0 k bt136.2 bt138.2.1 bt141.1 bt143.1 false)) else (num_Parse.j0 k bt136.2 bt138.2.1 bt141.1 bt143.1 true)))))
theorem num_Parse.mono_l : ∀ k, (∀ y0 y1 y2 y3 y4, LeO (num_Parse.j0 k y0 y1 y2 y3 y4) (num_Parse.j0 (k + 1) y0 y1 y2 y3 y4)) ∧ (∀ y0 y1 y2 y3 y4, LeO (num_Parse.l0 k y0 y1 y2 y3 y4) (num_Parse.l0 (k + 1) y0 y1 y2 y3 y4))
  | 0 => ⟨fun _ _ _ _ _ r h => by simp [num_Parse.j0] at h, fun _ _ _ _ _ r h => by simp [num_Parse.l0] at h⟩
  | k + 1 => by
    obtain ⟨ih0, ih1⟩ := num_Parse.mono_l k
    refine ⟨?_, ?_⟩
    · intro y0 y1 y2 y3 y4
      unfold num_Parse.j0
      repeat' first
      | (with_reducible exact ih0 _ _ _ _ _)
      | (with_reducible exact ih1 _ _ _ _ _)
      | (with_reducible exact strings_Cut.mono _ _ _)
      | (with_reducible exact LeO.refl _)
      | (with_reducible exact LeO.none _)
      | (with_reducible refine LeO.ite ?_ ?_)
      | (with_reducible refine LeO.bind ?_ (fun _ => ?_))
      | exact ih0 _ _ _ _ _
      | exact ih1 _ _ _ _ _
      | exact strings_Cut.mono _ _ _
      | exact LeO.none _
      | refine LeO.ite ?_ ?_
      | refine LeO.bind ?_ (fun _ => ?_)
    · intro y0 y1 y2 y3 y4
      unfold num_Parse.l0
      repeat' first
      | (with_reducible exact ih0 _ _ _ _ _)
      | (with_reducible exact ih1 _ _ _ _ _)
      | (with_reducible exact strings_Cut.mono _ _ _)
      | (with_reducible exact LeO.refl _)
      | (with_reducible exact LeO.none _)
      | (with_reducible refine LeO.ite ?_ ?_)
      | (with_reducible refine LeO.bind ?_ (fun _ => ?_))
      | exact ih0 _ _ _ _ _
      | exact ih1 _ _ _ _ _
      | exact strings_Cut.mono _ _ _
      | exact LeO.none _
      | refine LeO.ite ?_ ?_
      | refine LeO.bind ?_ (fun _ => ?_)
theorem num_Parse.mono : ∀ a0 k, LeO (num_Parse.f k a0) (num_Parse.f (k + 1) a0) := by
  intro a0 k
  obtain ⟨ih0, ih1⟩ := num_Parse.mono_l k
  unfold num_Parse.f
  repeat' first
      | (with_reducible exact ih0 _ _ _ _ _)
      | (with_reducible exact ih1 _ _ _ _ _)
      | (with_reducible exact strings_Cut.mono _ _ _)
      | (with_reducible exact LeO.refl _)
      | (with_reducible exact LeO.none _)
      | (with_reducible refine LeO.ite ?_ ?_)
      | (with_reducible refine LeO.bind ?_ (fun _ => ?_))
      | exact ih0 _ _ _ _ _
      | exact ih1 _ _ _ _ _
      | exact strings_Cut.mono _ _ _
      | exact LeO.none _
      | refine LeO.ite ?_ ?_
      | refine LeO.bind ?_ (fun _ => ?_)
set_option maxHeartbeats 8000000 in
set_option maxRecDepth 100000 in
theorem num_Parse.calls (k : Nat) (a0 : ByteArray) (r1 : Int) (r2 : Bool) (w : World) (h : num_Parse.f k a0 = some (r1, r2)) :
    Calls Tryz.prog 128 #[.string a0] w fun e w' => e = .returned (.tuple #[.int .i64 r1, .bool r2]) ∧ Below w.heap.size w w' := by
  have HB := Aside0.mk (Below.refl w.heap.size w)
  have H : ((strings_CutPrefix.f a0 (⟨#[45]⟩ : ByteArray)).bind fun bt136 => ((strings_Cut.f k bt136.1 (⟨#[46]⟩ : ByteArray)).bind fun bt138 => ((num_count.f bt138.1 1 12).bind fun bt141 => ((num_count.f bt138.2.1 1 4).bind fun bt143 => (if bt141.2 = true then (if bt138.2.2 = true then (num_Parse.j0 k bt136.2 bt138.2.1 bt141.1 bt143.1 (!bt143.2)) else (num_Parse.j0 k bt136.2 bt138.2.1 bt141.1 bt143.1 false)) else (num_Parse.j0 k bt136.2 bt138.2.1 bt141.1 bt143.1 true)))))) = some (r1, r2) := h
  clear h
  replace H := Option.bind_eq_some_iff.mp H
  obtain ⟨⟨t136, t137⟩, A20, H⟩ := H
  replace H : ((strings_Cut.f k t136 (⟨#[46]⟩ : ByteArray)).bind fun bt138 => ((num_count.f bt138.1 1 12).bind fun bt141 => ((num_count.f bt138.2.1 1 4).bind fun bt143 => (if bt141.2 = true then (if bt138.2.2 = true then (num_Parse.j0 k t137 bt138.2.1 bt141.1 bt143.1 (!bt143.2)) else (num_Parse.j0 k t137 bt138.2.1 bt141.1 bt143.1 false)) else (num_Parse.j0 k t137 bt138.2.1 bt141.1 bt143.1 true))))) = some (r1, r2) := H
  have A2 := Aside0.mk A20
  clear A20
  replace H := Option.bind_eq_some_iff.mp H
  obtain ⟨⟨t138, t139, t140⟩, A30, H⟩ := H
  replace H : ((num_count.f t138 1 12).bind fun bt141 => ((num_count.f t139 1 4).bind fun bt143 => (if bt141.2 = true then (if t140 = true then (num_Parse.j0 k t137 t139 bt141.1 bt143.1 (!bt143.2)) else (num_Parse.j0 k t137 t139 bt141.1 bt143.1 false)) else (num_Parse.j0 k t137 t139 bt141.1 bt143.1 true)))) = some (r1, r2) := H
  have A3 := Aside0.mk A30
  clear A30
  replace H := Option.bind_eq_some_iff.mp H
  obtain ⟨⟨t141, t142⟩, A40, H⟩ := H
  replace H : ((num_count.f t139 1 4).bind fun bt143 => (if t142 = true then (if t140 = true then (num_Parse.j0 k t137 t139 t141 bt143.1 (!bt143.2)) else (num_Parse.j0 k t137 t139 t141 bt143.1 false)) else (num_Parse.j0 k t137 t139 t141 bt143.1 true))) = some (r1, r2) := H
  have A4 := Aside0.mk A40
  clear A40
  replace H := Option.bind_eq_some_iff.mp H
  obtain ⟨⟨t143, t144⟩, A50, H⟩ := H
  replace H : (if t142 = true then (if t140 = true then (num_Parse.j0 k t137 t139 t141 t143 (!t144)) else (num_Parse.j0 k t137 t139 t141 t143 false)) else (num_Parse.j0 k t137 t139 t141 t143 true)) = some (r1, r2) := H
  have A5 := Aside0.mk A50
  clear A50
  have HC6 := Aside0.mk H
  clear H
  go_enter Tryz.func128, Tryz.ntmps128
  go_upto_region 5 with (first | ((with_reducible refine gate_callee (f := 133) rfl ?_); refine goesL_ (some 14) rfl rfl Tryz.func133 (by kernel_rfl) rfl #[.string a0, .string (⟨#[45]⟩ : ByteArray)] rfl (by (try simp only [List.map_toArray, List.map_cons, List.map_nil]); first | done | rfl | (simp only [List.length_drop, List.length_take]; rfl)) ?_; (with_reducible refine (strings_CutPrefix.calls a0 (⟨#[45]⟩ : ByteArray) t136 t137 _ A2.out).mono ?_); rintro e w' ⟨rfl, ⟨nd, rfl⟩⟩; refine ⟨_, rfl, ?_⟩) | ((with_reducible refine gate_callee (f := 134) rfl ?_); refine goesL_ (some 19) rfl rfl Tryz.func134 (by kernel_rfl) rfl #[.string t136, .string (⟨#[46]⟩ : ByteArray)] rfl (by (try simp only [List.map_toArray, List.map_cons, List.map_nil]); first | done | rfl | (simp only [List.length_drop, List.length_take]; rfl)) ?_; (with_reducible refine (strings_Cut.calls k t136 (⟨#[46]⟩ : ByteArray) t138 t139 t140 _ A3.out).mono ?_); rintro e w' ⟨rfl, ⟨nd, rfl⟩⟩; refine ⟨_, rfl, ?_⟩) | ((with_reducible refine gate_callee (f := 135) rfl ?_); refine goesL_ (some 25) rfl rfl Tryz.func135 (by kernel_rfl) rfl #[.string t138, .int .i64 1, .int .i64 12] rfl (by (try simp only [List.map_toArray, List.map_cons, List.map_nil]); first | done | rfl | (simp only [List.length_drop, List.length_take]; rfl)) ?_; (with_reducible refine (num_count.calls t138 1 12 t141 t142 _ A4.out).mono ?_); rintro e w7 ⟨rfl, hb⟩; refine ⟨_, rfl, ?_⟩; have n0_ := Aside0.mk (below_step (by repeat (first | (with_reducible first | exact HB.out | apply below_alloc | apply pw_below_drewN | apply below_drew1) | exact HB.out)) hb); clear HB; have HB := n0_; clear n0_; (try clear hb); (try clear hb2); (try clear hk); (try clear hi)) | ((with_reducible refine gate_callee (f := 135) rfl ?_); refine goesL_ (some 30) rfl rfl Tryz.func135 (by kernel_rfl) rfl #[.string t139, .int .i64 1, .int .i64 4] rfl (by (try simp only [List.map_toArray, List.map_cons, List.map_nil]); first | done | rfl | (simp only [List.length_drop, List.length_take]; rfl)) ?_; (with_reducible refine (num_count.calls t139 1 4 t143 t144 _ A5.out).mono ?_); rintro e w8 ⟨rfl, hb⟩; refine ⟨_, rfl, ?_⟩; have n0_ := Aside0.mk (below_step (by repeat (first | (with_reducible first | exact HB.out | apply below_alloc | apply pw_below_drewN | apply below_drew1) | exact HB.out)) hb); clear HB; have HB := n0_; clear n0_; (try clear hb); (try clear hb2); (try clear hk); (try clear hi)))
  (try simp only [Act.put, List.setIfInBounds_toArray, List.set_cons_zero, List.set_cons_succ])
  go_cut [41] (fun v41 wc => ∃ (kq : Nat) (x41_5 : Bool), v41 = .bool x41_5 ∧ Aside0 (num_Parse.j0 kq t137 t139 t141 t143 x41_5 = some (r1, r2)) ∧ Aside0 (kq ≤ k) ∧ Aside0 (Below w.heap.size w wc))
  case first =>
    have H := HC6.out
    clear HC6
    by_cases c9 : t142 = true
    · subst c9
      have H1 : (if t140 = true then (num_Parse.j0 k t137 t139 t141 t143 (!t144)) else (num_Parse.j0 k t137 t139 t141 t143 false)) = some (r1, r2) := by rw [if_pos rfl] at H; exact H
      clear H
      have H := H1
      clear H1
      by_cases c10 : t140 = true
      · subst c10
        have H1 : (num_Parse.j0 k t137 t139 t141 t143 (!t144)) = some (r1, r2) := by rw [if_pos rfl] at H; exact H
        clear H
        have H := H1
        clear H1
        have H' := Aside0.mk H
        clear H
        go_wp2
        go_meet
        case rel => exact ⟨_, (!t144), (by first | rfl | (simp; done) | (simp [*]; done) | (simp [Go.Proofs.YtnpcmgajplikbaaGreatDoor.X.bne_nil]; done)), H', ⟨by first | omega | exact Nat.le_refl _⟩, ⟨by repeat (first | (with_reducible first | exact HB.out | apply below_alloc | apply pw_below_drewN | apply below_drew1) | exact HB.out)⟩⟩
      · replace c10 := Bool.eq_false_iff.mpr c10
        subst c10
        have H1 : (num_Parse.j0 k t137 t139 t141 t143 false) = some (r1, r2) := by rw [if_neg (show ¬ (false = true) by decide)] at H; exact H
        clear H
        have H := H1
        clear H1
        have H' := Aside0.mk H
        clear H
        go_wp2
        go_meet
        case rel => exact ⟨_, (false), (by first | rfl | (simp; done) | (simp [*]; done) | (simp [Go.Proofs.YtnpcmgajplikbaaGreatDoor.X.bne_nil]; done)), H', ⟨by first | omega | exact Nat.le_refl _⟩, ⟨by repeat (first | (with_reducible first | exact HB.out | apply below_alloc | apply pw_below_drewN | apply below_drew1) | exact HB.out)⟩⟩
    · replace c9 := Bool.eq_false_iff.mpr c9
      subst c9
      have H1 : (num_Parse.j0 k t137 t139 t141 t143 true) = some (r1, r2) := by rw [if_neg (show ¬ (false = true) by decide)] at H; exact H
      clear H
      have H := H1
      clear H1
      have H' := Aside0.mk H
      clear H
      go_wp2
      go_meet
      case rel => exact ⟨_, (true), (by first | rfl | (simp; done) | (simp [*]; done) | (simp [Go.Proofs.YtnpcmgajplikbaaGreatDoor.X.bne_nil]; done)), H', ⟨by first | omega | exact Nat.le_refl _⟩, ⟨by repeat (first | (with_reducible first | exact HB.out | apply below_alloc | apply pw_below_drewN | apply below_drew1) | exact HB.out)⟩⟩
  case rest =>
    clear HC6
    try clear c1
    try clear p2
    try clear c9
    try clear c10
    obtain ⟨kq, x41_5, rfl, HA, HJ5, HB⟩ := hcut
    cases kq with
    | zero => exact absurd HA.out (by simp [num_Parse.j0])
    | succ kj5 =>
      have H := HA.out
      clear HA
      simp only [num_Parse.j0] at H
      by_cases c11 : x41_5 = true
      · subst c11
        have H1 : (some (0, false)) = some (r1, r2) := by rw [if_pos rfl] at H; exact H
        clear H
        have H := H1
        clear H1
        simp only [Option.some.injEq, Prod.mk.injEq] at H
        obtain ⟨rfl, rfl⟩ := H
        go_wp2
        go_ret2
        exact ⟨by first | rfl | (simp [errW_none, errW_some] <;> rfl) | (simp [*, errW_none, errW_some] <;> rfl), by repeat (first | (with_reducible first | exact HB.out | apply below_alloc | apply pw_below_drewN | apply below_drew1) | exact HB.out)⟩
      · replace c11 := Bool.eq_false_iff.mpr c11
        subst c11
        have H1 : (num_Parse.l0 kj5 t137 t141 t143 (wrap64 (4 - (t139.size : Int))) 0) = some (r1, r2) := by rw [if_neg (show ¬ (false = true) by decide)] at H; exact H
        clear H
        have H := H1
        clear H1
        have H' := Aside0.mk H
        clear H
        go_wp2
        go_loopg [10, 45] kj5 (fun kq v10 v45 w' => ∃ (x10_2 : Int) (x45_2 : Int), v10 = .int .i64 x10_2 ∧ v45 = .int .i64 x45_2 ∧ Aside0 (num_Parse.l0 kq t137 t141 x10_2 (wrap64 (4 - (t139.size : Int))) x45_2 = some (r1, r2)) ∧ Aside0 (kq ≤ kj5) ∧ Aside0 (Below w.heap.size w w'))
        case atStart => exact ⟨(t143), (0), (by first | rfl | (simp; done) | (simp [*]; done) | (simp [Go.Proofs.YtnpcmgajplikbaaGreatDoor.X.bne_nil]; done)), (by first | rfl | (simp; done) | (simp [*]; done) | (simp [Go.Proofs.YtnpcmgajplikbaaGreatDoor.X.bne_nil]; done)), H', ⟨Nat.le_refl _⟩, ⟨by repeat (first | (with_reducible first | exact HB.out | apply below_alloc | apply pw_below_drewN | apply below_drew1) | exact HB.out)⟩⟩
        case round =>
          clear H'
          try clear c1
          try clear p2
          try clear p6
          try clear c9
          try clear c10
          try clear c11
          try clear p2
          obtain ⟨x10_2, x45_2, rfl, rfl, HA, HK2, HB⟩ := hrel
          cases gk with
          | zero => exact absurd HA.out (by simp [num_Parse.l0])
          | succ k2 =>
            have H := HA.out
            clear HA
            simp only [num_Parse.l0] at H
            by_cases c12 : x45_2 < (wrap64 (4 - (t139.size : Int)))
            · rw [if_pos c12] at H
              have c12b0 : decide (x45_2 < (wrap64 (4 - (t139.size : Int)))) = true := decide_eq_true c12
              clear c12
              have H' := Aside0.mk H
              clear H
              go_wp2
              go_roundg k2
              case measure => have := HJ5.out; have := HK2.out; omega
              case rel => exact ⟨(wrap64 (x10_2 * 10)), (wrap64 (x45_2 + 1)), (by first | rfl | (simp; done) | (simp [*]; done) | (simp [Go.Proofs.YtnpcmgajplikbaaGreatDoor.X.bne_nil]; done)), (by first | rfl | (simp; done) | (simp [*]; done) | (simp [Go.Proofs.YtnpcmgajplikbaaGreatDoor.X.bne_nil]; done)), H', ⟨by have := HJ5.out; have := HK2.out; omega⟩, ⟨by repeat (first | (with_reducible first | exact HB.out | apply below_alloc | apply pw_below_drewN | apply below_drew1) | exact HB.out)⟩⟩
            · rw [if_neg c12] at H
              have c12b0 : decide (x45_2 < (wrap64 (4 - (t139.size : Int)))) = false := decide_eq_false c12
              clear c12
              by_cases c13 : t137 = true
              · subst c13
                have H1 : ((num_told.f (wrap64 (-(wrap64 ((wrap64 (t141 * 10000)) + x10_2))))).bind fun bt145 => (some (bt145.1, bt145.2))) = some (r1, r2) := by rw [if_pos rfl] at H; exact H
                clear H
                have H := H1
                clear H1
                replace H := Option.bind_eq_some_iff.mp H
                obtain ⟨⟨t145, t146⟩, A140, H⟩ := H
                replace H : (some (t145, t146)) = some (r1, r2) := H
                have A14 := Aside0.mk A140
                clear A140
                simp only [Option.some.injEq, Prod.mk.injEq] at H
                obtain ⟨rfl, rfl⟩ := H
                go_wp2_with (first | ((with_reducible refine gate_callee (f := 76) rfl ?_); refine goesL_ (some 58) rfl rfl Tryz.func76 (by kernel_rfl) rfl #[.int .i64 (wrap64 (-(wrap64 ((wrap64 (t141 * 10000)) + x10_2))))] rfl (by (try simp only [List.map_toArray, List.map_cons, List.map_nil]); first | done | rfl | (simp only [List.length_drop, List.length_take]; rfl)) ?_; (with_reducible refine (num_told.calls (wrap64 (-(wrap64 ((wrap64 (t141 * 10000)) + x10_2)))) t145 t146 _ A14.out).mono ?_); rintro e w' ⟨rfl, ⟨nd, rfl⟩⟩; refine ⟨_, rfl, ?_⟩))
                go_ret2
                exact ⟨by first | rfl | (simp [errW_none, errW_some] <;> rfl) | (simp [*, errW_none, errW_some] <;> rfl), by repeat (first | (with_reducible first | exact HB.out | apply below_alloc | apply pw_below_drewN | apply below_drew1) | exact HB.out)⟩
              · replace c13 := Bool.eq_false_iff.mpr c13
                subst c13
                have H1 : ((num_told.f (wrap64 ((wrap64 (t141 * 10000)) + x10_2))).bind fun bt147 => (some (bt147.1, bt147.2))) = some (r1, r2) := by rw [if_neg (show ¬ (false = true) by decide)] at H; exact H
                clear H
                have H := H1
                clear H1
                replace H := Option.bind_eq_some_iff.mp H
                obtain ⟨⟨t147, t148⟩, A150, H⟩ := H
                replace H : (some (t147, t148)) = some (r1, r2) := H
                have A15 := Aside0.mk A150
                clear A150
                simp only [Option.some.injEq, Prod.mk.injEq] at H
                obtain ⟨rfl, rfl⟩ := H
                go_wp2_with (first | ((with_reducible refine gate_callee (f := 76) rfl ?_); refine goesL_ (some 58) rfl rfl Tryz.func76 (by kernel_rfl) rfl #[.int .i64 (wrap64 ((wrap64 (t141 * 10000)) + x10_2))] rfl (by (try simp only [List.map_toArray, List.map_cons, List.map_nil]); first | done | rfl | (simp only [List.length_drop, List.length_take]; rfl)) ?_; (with_reducible refine (num_told.calls (wrap64 ((wrap64 (t141 * 10000)) + x10_2)) t147 t148 _ A15.out).mono ?_); rintro e w' ⟨rfl, ⟨nd, rfl⟩⟩; refine ⟨_, rfl, ?_⟩))
                go_ret2
                exact ⟨by first | rfl | (simp [errW_none, errW_some] <;> rfl) | (simp [*, errW_none, errW_some] <;> rfl), by repeat (first | (with_reducible first | exact HB.out | apply below_alloc | apply pw_below_drewN | apply below_drew1) | exact HB.out)⟩

/-! ### num_size: function 79 -/
def num_size.f (a0 : Int) : Option (Int) := if a0 < 0 then (some (IntKind.u64.wrap (-(IntKind.u64.wrap (a0))))) else (some (IntKind.u64.wrap (a0)))
set_option maxHeartbeats 8000000 in
set_option maxRecDepth 100000 in
theorem num_size.calls (a0 : Int) (r : Int) (w : World) (h : num_size.f a0 = some r) :
    Calls Tryz.prog 79 #[.int .i64 a0] w fun e w' => e = .returned (.int .u64 r) ∧ Drawn0 w w' := by
  have H : (if a0 < 0 then (some (IntKind.u64.wrap (-(IntKind.u64.wrap (a0))))) else (some (IntKind.u64.wrap (a0)))) = some r := h
  clear h
  by_cases c2 : a0 < 0
  · rw [if_pos c2] at H
    have c2b0 : decide (a0 < 0) = true := decide_eq_true c2
    clear c2
    obtain rfl := Option.some.inj H
    go_enter Tryz.func79, Tryz.ntmps79
    go_wp2
    go_ret
    exact ⟨by first | rfl | (simp; done) | (simp [*]; done) | (simp [Go.Proofs.YtnpcmgajplikbaaGreatDoor.X.bne_nil]; done), by repeat (first | exact Drawn0.refl _ | apply Drawn0.step)⟩
  · rw [if_neg c2] at H
    have c2b0 : decide (a0 < 0) = false := decide_eq_false c2
    clear c2
    obtain rfl := Option.some.inj H
    go_enter Tryz.func79, Tryz.ntmps79
    go_wp2
    go_ret
    exact ⟨by first | rfl | (simp; done) | (simp [*]; done) | (simp [Go.Proofs.YtnpcmgajplikbaaGreatDoor.X.bne_nil]; done), by repeat (first | exact Drawn0.refl _ | apply Drawn0.step)⟩

/-! ### num_decimal: function 136 -/
def num_decimal.l0 : Nat → List Int → Int → Option (ByteArray)
  | 0, _, _ => none
  | k + 1, L, u => if L.length < 20 then (if u / 10 = 0 then (some (strOfNums ((48 + u % 10) :: L))) else (num_decimal.l0 k ((48 + u % 10) :: L) (u / 10))) else none
def num_decimal.f (k : Nat) (a0 : Int) : Option (ByteArray) := if 0 ≤ a0 then (if a0 ≤ 18446744073709551615 then (num_decimal.l0 k [] a0) else none) else none
theorem num_decimal.mono_l : ∀ k, (∀ y0 y1, LeO (num_decimal.l0 k y0 y1) (num_decimal.l0 (k + 1) y0 y1))
  | 0 => fun _ _ r h => by simp [num_decimal.l0] at h
  | k + 1 => by
    have ih0 := num_decimal.mono_l k
    · intro y0 y1
      unfold num_decimal.l0
      repeat' first
      | (with_reducible exact ih0 _ _)
      | (with_reducible exact LeO.refl _)
      | (with_reducible exact LeO.none _)
      | (with_reducible refine LeO.ite ?_ ?_)
theorem num_decimal.mono : ∀ a0 k, LeO (num_decimal.f k a0) (num_decimal.f (k + 1) a0) := by
  intro a0 k
  have ih0 := num_decimal.mono_l k
  unfold num_decimal.f
  repeat' first
      | (with_reducible exact ih0 _ _)
      | (with_reducible exact LeO.refl _)
      | (with_reducible exact LeO.none _)
      | (with_reducible refine LeO.ite ?_ ?_)
set_option maxHeartbeats 8000000 in
set_option maxRecDepth 100000 in
theorem num_decimal.calls (k : Nat) (a0 : Int) (r : ByteArray) (w : World) (h : num_decimal.f k a0 = some r) :
    Calls Tryz.prog 136 #[.int .u64 a0] w fun e w' => e = .returned (.string r) ∧ Below w.heap.size w w' := by
  unfold num_decimal.f at h
  by_cases c0 : 0 ≤ a0
  · rw [if_pos c0] at h
    by_cases c1 : a0 ≤ 18446744073709551615
    · rw [if_pos c1] at h
      have H' := Aside0.mk h
      clear h
      go_enter Tryz.func136, Tryz.ntmps136
      go_wp2
      go_loopg [0, 4] k (fun kq v0 v4 w' => ∃ (u : Int) (a : Nat) (L : List Int), v0 = .int .u64 u ∧ v4 = .int .i64 (a : Int) ∧ Aside0 (num_decimal.l0 kq L u = some r) ∧ Aside0 (kq ≤ k) ∧ Aside0 (0 ≤ u ∧ u ≤ 18446744073709551615) ∧ Aside0 (a + L.length = 20) ∧ Aside0 (X.BlkM w' w.heap.size 118 (0, 0) ((List.replicate a 0 ++ L).map (Value.int .u8)).toArray) ∧ Aside0 (Below w.heap.size w w'))
      case atStart => exact ⟨_, 20, [], rfl, rfl, H', ⟨Nat.le_refl _⟩, ⟨c0, c1⟩, ⟨rfl⟩, ⟨X.BlkM.new _ _ _ _⟩, ⟨(Below.refl _ _).alloc (Nat.le_refl _) _⟩⟩
      case round =>
        clear H' c0 c1
        obtain ⟨u, a, L, rfl, rfl, HA, HK, HU, HL, HC, HB⟩ := hrel
        cases gk with
        | zero => exact absurd HA.out (by simp [num_decimal.l0])
        | succ k1 =>
          have H := HA.out
          clear HA
          simp only [num_decimal.l0] at H
          have hl := HL.out
          by_cases c2 : L.length < 20
          · rw [if_pos c2] at H
            obtain ⟨b, rfl⟩ : ∃ b, a = b + 1 := ⟨a - 1, by omega⟩
            have u0 := HU.out.1
            have u1 := HU.out.2
            have hb : (b : Int) < 20 := by omega
            have hb0 : (0 : Int) ≤ b := by omega
            have hcc := HC.out.cell b
            have hlt : b < (List.replicate (b + 1) 0 ++ L).length := by simp; omega
            rw [X.at_list _ b hlt] at hcc
            generalize (List.replicate (b + 1) 0 ++ L)[b]'hlt = z at hcc
            have hff : (wr.frozen? ⟨w.heap.size, b, none⟩) = false := by
              have := HC.out
              unfold X.BlkM at this
              simp [World.frozen?, this]
            have hw1 : wrap64 (((b + 1 : Nat) : Int) - 1) = (b : Int) := by unfold wrap64; omega
            have hw2 : ((b + 1 : Nat) : Int) - 1 = (b : Int) := by omega
            have HN := HC.out.set_ b (.int .u8 (48 + u % 10))
            rw [X.set_list, X.rep_set] at HN
            have HN' := Aside0.mk HN
            clear HN hlt
            by_cases c3 : u / 10 = 0
            · rw [if_pos c3] at H
              have c3b : (u / 10 == 0) = true := beq_iff_eq.mpr c3
              obtain rfl := Option.some.inj H
              clear c3 hl
              have ha : Tryz.prog.arrayLen 118 = 20 := by kernel_rfl
              have hse : ∀ W : World, (sizeOf (Tryz.prog.elem 118)).run Tryz.prog W = .ok 1 W := fun W => by kernel_rfl
              have hsl : ∀ W : World, (Instr.sliceAt 118 (.pointer (some ⟨w.heap.size, 0, none⟩)) (some (.int .i64 (b : Int))) none none).run Tryz.prog W = .ok (.slice (some ⟨w.heap.size, b, none⟩) (20 - b) (20 - b)) W := fun W => by
                rw [run_sliceAt_array_l W 118 _ (by kernel_rfl) .i64 (b : Int) hb0 (by rw [ha]; omega), hse, ha]
                simp only [Result.andThen, slicedAt, Int.toNat_natCast, Nat.mul_one]
                rw [if_neg (by omega)]
                simp only [Addr.add]
                by_cases e : b = 0
                · simp [e]
                · simp [e]
              have hcv := run_convert_bytes_arg (P := Tryz.prog) (wr.setCell ⟨w.heap.size, b, none⟩ (.int .u8 (48 + u % 10))) 90 5 Tryz.underlying90 Tryz.underlying5 w.heap.size b (20 - b) (20 - b) ((48 + u % 10) :: L) (by have := HL.out; simp; omega) (fun i hi => by
                have hq := HN'.out.cell (b + i)
                have hlen := HL.out
                have hlt : b + i < (List.replicate b 0 ++ (48 + u % 10) :: L).length := by simp; omega
                rw [X.at_list _ _ hlt] at hq
                rw [hq]
                have e : (List.replicate b 0 ++ (48 + u % 10) :: L)[b + i]'hlt = ((48 + u % 10) :: L).getD i 0 := by
                  have hi' : i < ((48 + u % 10) :: L).length := by simp; omega
                  rw [List.getElem_append_right (by simp)]
                  rw [List.getD_eq_getElem?_getD, List.getElem?_eq_getElem hi']
                  simp
                rw [e]) 9 Tryz.underlying9
              clear ha hse
              go_wp2
              go_ret
              exact ⟨rfl, HB.out.setCell (Nat.le_refl _) _⟩
            · rw [if_neg c3] at H
              have c3b : (u / 10 == 0) = false := beq_eq_false_iff_ne.mpr c3
              have H' := Aside0.mk H
              clear H c3 hl
              go_wp2
              go_roundg k1
              case measure => have := HK.out; omega
              case rel => exact ⟨_, b, _, rfl, rfl, H', ⟨by have := HK.out; omega⟩, ⟨by omega, by omega⟩, ⟨by have := HL.out; simp; omega⟩, HN', ⟨HB.out.setCell (Nat.le_refl _) _⟩⟩
          · rw [if_neg c2] at H
            exact absurd H (by simp)
    · rw [if_neg c1] at h
      exact absurd h (by simp)
  · rw [if_neg c0] at h
    exact absurd h (by simp)
/-! ### strings_trimRightByte: function 141 -/
def strings_trimRightByte.l0 : Nat → ByteArray → Int → Option (ByteArray)
  | 0, _, _ => none
  | k + 1, x0, x1 => if (x0.size : Int) > 0 then (if 0 ≤ (wrap64 ((x0.size : Int) - 1)) then (if (wrap64 ((x0.size : Int) - 1)) < (x0.size : Int) then (if (bt x0 (wrap64 ((x0.size : Int) - 1))) = x1 then (if (wrap64 ((x0.size : Int) - 1)) ≤ (x0.size : Int) then (strings_trimRightByte.l0 k (x0.extract 0 ((wrap64 ((x0.size : Int) - 1)) : Int).toNat) x1) else (none)) else (some x0)) else (none)) else (none)) else (some x0)
def strings_trimRightByte.f (k : Nat) (a0 : ByteArray) (a1 : Int) : Option (ByteArray) := strings_trimRightByte.l0 k a0 a1
theorem strings_trimRightByte.mono_l : ∀ k, (∀ y0 y1, LeO (strings_trimRightByte.l0 k y0 y1) (strings_trimRightByte.l0 (k + 1) y0 y1))
  | 0 => fun _ _ r h => by simp [strings_trimRightByte.l0] at h
  | k + 1 => by
    have ih0 := strings_trimRightByte.mono_l k
    · intro y0 y1
      unfold strings_trimRightByte.l0
      repeat' first
      | (with_reducible exact ih0 _ _)
      | (with_reducible exact LeO.refl _)
      | (with_reducible exact LeO.none _)
      | (with_reducible refine LeO.ite ?_ ?_)
      | (with_reducible refine LeO.bind ?_ (fun _ => ?_))
      | exact ih0 _ _
      | exact LeO.none _
      | refine LeO.ite ?_ ?_
      | refine LeO.bind ?_ (fun _ => ?_)
theorem strings_trimRightByte.mono : ∀ a0 a1 k, LeO (strings_trimRightByte.f k a0 a1) (strings_trimRightByte.f (k + 1) a0 a1) := by
  intro a0 a1 k
  have ih0 := strings_trimRightByte.mono_l k
  unfold strings_trimRightByte.f
  repeat' first
      | (with_reducible exact ih0 _ _)
      | (with_reducible exact LeO.refl _)
      | (with_reducible exact LeO.none _)
      | (with_reducible refine LeO.ite ?_ ?_)
      | (with_reducible refine LeO.bind ?_ (fun _ => ?_))
      | exact ih0 _ _
      | exact LeO.none _
      | refine LeO.ite ?_ ?_
      | refine LeO.bind ?_ (fun _ => ?_)
set_option maxHeartbeats 8000000 in
set_option maxRecDepth 100000 in
theorem strings_trimRightByte.calls (k : Nat) (a0 : ByteArray) (a1 : Int) (r : ByteArray) (w : World) (h : strings_trimRightByte.f k a0 a1 = some r) :
    Calls Tryz.prog 141 #[.string a0, .int .u8 a1] w fun e w' => e = .returned (.string r) ∧ Drawn0 w w' := by
  have H : (strings_trimRightByte.l0 k a0 a1) = some r := h
  clear h
  have H' := Aside0.mk H
  clear H
  go_enter Tryz.func141, Tryz.ntmps141
  go_wp2
  go_loopg [0] k (fun kq v0 w' => ∃ (x0_1 : ByteArray), v0 = .string x0_1 ∧ Aside0 (strings_trimRightByte.l0 kq x0_1 a1 = some r) ∧ Aside0 (kq ≤ k) ∧ Drawn0 w w')
  case atStart => exact ⟨(a0), (by first | rfl | (simp; done) | (simp [*]; done) | (simp [Go.Proofs.YtnpcmgajplikbaaGreatDoor.X.bne_nil]; done)), H', ⟨Nat.le_refl _⟩, by repeat (first | exact Drawn0.refl _ | apply Drawn0.step)⟩
  case round =>
    clear H'
    try clear c1
    try clear p2
    obtain ⟨x0_1, rfl, HA, HK1, ⟨m1, rfl⟩⟩ := hrel
    cases gk with
    | zero => exact absurd HA.out (by simp [strings_trimRightByte.l0])
    | succ k1 =>
      have H := HA.out
      clear HA
      simp only [strings_trimRightByte.l0] at H
      by_cases c3 : (x0_1.size : Int) > 0
      · rw [if_pos c3] at H
        have c3b0 : decide (0 < (x0_1.size : Int)) = true := decide_eq_true c3
        have c3b1 : decide (0 < x0_1.size) = true := decide_eq_true (by omega)
        clear c3
        obtain ⟨ji4, hji4⟩ : ∃ j_ : Int, (wrap64 ((x0_1.size : Int) - 1)) = j_ := ⟨_, rfl⟩
        replace H : (if 0 ≤ (ji4) then (if (ji4) < (x0_1.size : Int) then (if (bt x0_1 (ji4)) = a1 then (if (ji4) ≤ (x0_1.size : Int) then (strings_trimRightByte.l0 k1 (x0_1.extract 0 ((ji4) : Int).toNat) a1) else (none)) else (some x0_1)) else (none)) else (none)) = some r := by first | (rw [hji4] at H; exact H) | (simp only [hji4] at H ⊢; exact H)
        have hji4w : (IntKind.i64.wrap ((x0_1.size : Int) - 1)) = ji4 := (i64_w _).trans hji4
        by_cases c5 : 0 ≤ (ji4)
        · rw [if_pos c5] at H
          have c5b0 : decide (0 ≤ (ji4)) = true := decide_eq_true c5
          clear c5
          by_cases c6 : (ji4) < (x0_1.size : Int)
          · rw [if_pos c6] at H
            have c6b0 : decide ((ji4) < (x0_1.size : Int)) = true := decide_eq_true c6
            clear c6
            by_cases c8 : (bt x0_1 (ji4)) = a1
            · rw [if_pos c8] at H
              have c8b0 : ((bt x0_1 (ji4)) == a1) = true := beq_iff_eq.mpr c8
              have c8b1 : ((bt x0_1 (ji4)) != a1) = false := bne_eq_false_iff_eq.mpr c8
              clear c8
              have c9b0 := eq_true (of_decide_eq_true (by first | (with_reducible assumption) | assumption) : 0 ≤ (ji4))
              by_cases c10 : (ji4) ≤ (x0_1.size : Int)
              · rw [if_pos c10] at H
                have c10b0 := eq_true c10
                have c10b1 : decide ((ji4) ≤ (x0_1.size : Int)) = true := decide_eq_true c10
                clear c10
                have H' := Aside0.mk H
                clear H
                have p7 : 0 ≤ ((ji4) : Int) := of_decide_eq_true (by first | (with_reducible assumption) | assumption)
                have q7 : (ji4) < (x0_1.size : Int) := of_decide_eq_true (by first | (with_reducible assumption) | assumption)
                have hx7 := bt_at x0_1 (ji4)
                replace p7 := eq_true p7
                replace q7 := eq_true q7
                go_wp2
                go_roundg k1
                case measure => have := HK1.out; omega
                case rel => exact ⟨(x0_1.extract 0 ((ji4) : Int).toNat), (by first | rfl | (simp; done) | (simp only [← hji4] <;> (first | rfl | simp)) | (simp [*]; done)), H', ⟨by have := HK1.out; omega⟩, by repeat (first | exact Drawn0.refl _ | apply Drawn0.step)⟩
              · rw [if_neg c10] at H
                exact absurd H (by simp)
            · rw [if_neg c8] at H
              have c8b0 : ((bt x0_1 (ji4)) == a1) = false := beq_eq_false_iff_ne.mpr c8
              have c8b1 : ((bt x0_1 (ji4)) != a1) = true := bne_iff_ne.mpr c8
              obtain rfl := Option.some.inj H
              have p7 : 0 ≤ ((ji4) : Int) := of_decide_eq_true (by first | (with_reducible assumption) | assumption)
              have q7 : (ji4) < (x0_1.size : Int) := of_decide_eq_true (by first | (with_reducible assumption) | assumption)
              have hx7 := bt_at x0_1 (ji4)
              replace p7 := eq_true p7
              replace q7 := eq_true q7
              go_wp2
              go_ret
              exact ⟨by first | rfl | (simp; done) | (simp only [← hji4] <;> (first | rfl | simp)) | (simp [*]; done), by repeat (first | exact Drawn0.refl _ | apply Drawn0.step)⟩
          · rw [if_neg c6] at H
            exact absurd H (by simp)
        · rw [if_neg c5] at H
          exact absurd H (by simp)
      · rw [if_neg c3] at H
        have c3b0 : decide (0 < (x0_1.size : Int)) = false := decide_eq_false c3
        have c3b1 : decide (0 < x0_1.size) = false := decide_eq_false (by omega)
        clear c3
        obtain rfl := Option.some.inj H
        go_wp2
        go_ret
        exact ⟨by first | rfl | (simp; done) | (simp [*]; done) | (simp [Go.Proofs.YtnpcmgajplikbaaGreatDoor.X.bne_nil]; done), by repeat (first | exact Drawn0.refl _ | apply Drawn0.step)⟩

-- NOT PRINTED: function 142 (strings_makeASCIISet)

-- NOT PRINTED: function 147 (strings_asciiSet_contains)

-- NOT PRINTED: function 143 (strings_trimRightASCII)

/-! ### utf8_RuneStart: function 154 -/
def utf8_RuneStart.f (a0 : Int) : Option (Bool) := some ((Go.bits .and .u8 a0 192) != 128)
set_option maxHeartbeats 8000000 in
set_option maxRecDepth 100000 in
theorem utf8_RuneStart.calls (a0 : Int) (r : Bool) (w : World) (h : utf8_RuneStart.f a0 = some r) :
    Calls Tryz.prog 154 #[.int .u8 a0] w fun e w' => e = .returned (.bool r) ∧ Drawn0 w w' := by
  have H : (some ((Go.bits .and .u8 a0 192) != 128)) = some r := h
  clear h
  obtain rfl := Option.some.inj H
  go_enter Tryz.func154, Tryz.ntmps154
  go_wp2
  go_ret
  exact ⟨by first | rfl | (simp; done) | (simp [*]; done) | (simp [Go.Proofs.YtnpcmgajplikbaaGreatDoor.X.bne_nil]; done), by repeat (first | exact Drawn0.refl _ | apply Drawn0.step)⟩

-- NOT PRINTED: function 159 (utf8_decodeRuneInStringSlow)

-- NOT PRINTED: function 155 (utf8_DecodeRuneInString)

-- NOT PRINTED: function 148 (utf8_DecodeLastRuneInString)

-- NOT PRINTED: function 160 (strings_IndexByte)

/-! ### utf8_ValidRune: function 161 -/
def utf8_ValidRune.j0 : Nat → Int → Bool → Option (Bool)
  | 0, _, _ => none
  | k + 1, x0, x3 => if x3 = true then (some true) else (if 57343 < x0 then (if x0 ≤ 1114111 then (some true) else (some false)) else (some false))
def utf8_ValidRune.f (k : Nat) (a0 : Int) : Option (Bool) := if 0 ≤ a0 then (utf8_ValidRune.j0 k a0 (decide (a0 < 55296))) else (utf8_ValidRune.j0 k a0 false)
theorem utf8_ValidRune.mono_l : ∀ k, (∀ y0 y1, LeO (utf8_ValidRune.j0 k y0 y1) (utf8_ValidRune.j0 (k + 1) y0 y1))
  | 0 => fun _ _ r h => by simp [utf8_ValidRune.j0] at h
  | k + 1 => by
    have ih0 := utf8_ValidRune.mono_l k
    · intro y0 y1
      unfold utf8_ValidRune.j0
      repeat' first
      | (with_reducible exact ih0 _ _)
      | (with_reducible exact LeO.refl _)
      | (with_reducible exact LeO.none _)
      | (with_reducible refine LeO.ite ?_ ?_)
      | (with_reducible refine LeO.bind ?_ (fun _ => ?_))
      | exact ih0 _ _
      | exact LeO.none _
      | refine LeO.ite ?_ ?_
      | refine LeO.bind ?_ (fun _ => ?_)
theorem utf8_ValidRune.mono : ∀ a0 k, LeO (utf8_ValidRune.f k a0) (utf8_ValidRune.f (k + 1) a0) := by
  intro a0 k
  have ih0 := utf8_ValidRune.mono_l k
  unfold utf8_ValidRune.f
  repeat' first
      | (with_reducible exact ih0 _ _)
      | (with_reducible exact LeO.refl _)
      | (with_reducible exact LeO.none _)
      | (with_reducible refine LeO.ite ?_ ?_)
      | (with_reducible refine LeO.bind ?_ (fun _ => ?_))
      | exact ih0 _ _
      | exact LeO.none _
      | refine LeO.ite ?_ ?_
      | refine LeO.bind ?_ (fun _ => ?_)
set_option maxHeartbeats 8000000 in
set_option maxRecDepth 100000 in
theorem utf8_ValidRune.calls (k : Nat) (a0 : Int) (r : Bool) (w : World) (h : utf8_ValidRune.f k a0 = some r) :
    Calls Tryz.prog 161 #[.int .i32 a0] w fun e w' => e = .returned (.bool r) ∧ Drawn0 w w' := by
  have H : (if 0 ≤ a0 then (utf8_ValidRune.j0 k a0 (decide (a0 < 55296))) else (utf8_ValidRune.j0 k a0 false)) = some r := h
  clear h
  have HC2 := Aside0.mk H
  clear H
  go_enter Tryz.func161, Tryz.ntmps161
  go_upto_region 1 with (fail)
  go_cut [3] (fun v3 wc => ∃ (kq : Nat) (x3_1 : Bool), v3 = .bool x3_1 ∧ Aside0 (utf8_ValidRune.j0 kq a0 x3_1 = some r) ∧ Aside0 (kq ≤ k) ∧ Drawn0 w wc)
  case first =>
    have H := HC2.out
    clear HC2
    by_cases c3 : 0 ≤ a0
    · rw [if_pos c3] at H
      have c3b0 : decide (0 ≤ a0) = true := decide_eq_true c3
      clear c3
      (first | rw [c3b0] | (simp only [i64_w, i32_w]; rw [c3b0]) | skip)
      have H' := Aside0.mk H
      clear H
      go_wp2
      go_meet
      case rel => exact ⟨_, (decide (a0 < 55296)), (by first | rfl | (simp; done) | (simp [*]; done) | (simp [Go.Proofs.YtnpcmgajplikbaaGreatDoor.X.bne_nil]; done)), H', ⟨by first | omega | exact Nat.le_refl _⟩, by repeat (first | exact Drawn0.refl _ | apply Drawn0.step)⟩
    · rw [if_neg c3] at H
      have c3b0 : decide (0 ≤ a0) = false := decide_eq_false c3
      clear c3
      (first | rw [c3b0] | (simp only [i64_w, i32_w]; rw [c3b0]) | skip)
      have H' := Aside0.mk H
      clear H
      go_wp2
      go_meet
      case rel => exact ⟨_, (false), (by first | rfl | (simp; done) | (simp [*]; done) | (simp [Go.Proofs.YtnpcmgajplikbaaGreatDoor.X.bne_nil]; done)), H', ⟨by first | omega | exact Nat.le_refl _⟩, by repeat (first | exact Drawn0.refl _ | apply Drawn0.step)⟩
  case rest =>
    clear HC2
    try clear c1
    try clear p2
    try clear c3
    try clear c3b0
    obtain ⟨kq, x3_1, rfl, HA, HJ1, ⟨mc1, rfl⟩⟩ := hcut
    cases kq with
    | zero => exact absurd HA.out (by simp [utf8_ValidRune.j0])
    | succ kj1 =>
      have H := HA.out
      clear HA
      simp only [utf8_ValidRune.j0] at H
      by_cases c4 : x3_1 = true
      · subst c4
        have H1 : (some true) = some r := by rw [if_pos rfl] at H; exact H
        clear H
        have H := H1
        clear H1
        obtain rfl := Option.some.inj H
        go_wp2
        go_ret
        exact ⟨by first | rfl | (simp; done) | (simp [*]; done) | (simp [Go.Proofs.YtnpcmgajplikbaaGreatDoor.X.bne_nil]; done), by repeat (first | exact Drawn0.refl _ | apply Drawn0.step)⟩
      · replace c4 := Bool.eq_false_iff.mpr c4
        subst c4
        have H1 : (if 57343 < a0 then (if a0 ≤ 1114111 then (some true) else (some false)) else (some false)) = some r := by rw [if_neg (show ¬ (false = true) by decide)] at H; exact H
        clear H
        have H := H1
        clear H1
        by_cases c5 : 57343 < a0
        · rw [if_pos c5] at H
          have c5b0 : decide (57343 < a0) = true := decide_eq_true c5
          clear c5
          by_cases c6 : a0 ≤ 1114111
          · rw [if_pos c6] at H
            have c6b0 : decide (a0 ≤ 1114111) = true := decide_eq_true c6
            clear c6
            obtain rfl := Option.some.inj H
            go_wp2
            go_ret
            exact ⟨by first | rfl | (simp; done) | (simp [*]; done) | (simp [Go.Proofs.YtnpcmgajplikbaaGreatDoor.X.bne_nil]; done), by repeat (first | exact Drawn0.refl _ | apply Drawn0.step)⟩
          · rw [if_neg c6] at H
            have c6b0 : decide (a0 ≤ 1114111) = false := decide_eq_false c6
            clear c6
            obtain rfl := Option.some.inj H
            go_wp2
            go_ret
            exact ⟨by first | rfl | (simp; done) | (simp [*]; done) | (simp [Go.Proofs.YtnpcmgajplikbaaGreatDoor.X.bne_nil]; done), by repeat (first | exact Drawn0.refl _ | apply Drawn0.step)⟩
        · rw [if_neg c5] at H
          have c5b0 : decide (57343 < a0) = false := decide_eq_false c5
          clear c5
          obtain rfl := Option.some.inj H
          go_wp2
          go_ret
          exact ⟨by first | rfl | (simp; done) | (simp [*]; done) | (simp [Go.Proofs.YtnpcmgajplikbaaGreatDoor.X.bne_nil]; done), by repeat (first | exact Drawn0.refl _ | apply Drawn0.step)⟩

-- NOT PRINTED: function 156 (strings_IndexRune)

-- NOT PRINTED: function 149 (strings_ContainsRune)

-- NOT PRINTED: function 144 (strings_trimRightUnicode)

end Go.Proofs.YtnpcmgajplikbaaGreatDoor.P
