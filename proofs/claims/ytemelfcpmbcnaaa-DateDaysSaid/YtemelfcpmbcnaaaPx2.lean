-- Written by a program of this session (wip/tools/xprint.py), out of the seat's translation. Not trusted: Lean checks it.
import Derived.Test.YtemelfcpmbcnaaaPx0
import Derived.Test.YtemelfcpmbcnaaaPx1
namespace Go.Proofs.Ytemelfcpmbcnaaa.P
open Go.RowKit Go.Proofs.YtemelfcpmbcnaaaW.PrintWords Go.Proofs.YtemelfcpmbcnaaaW.PrintLast Go.Proofs.YtemelfcpmbcnaaaW.PrintMore
attribute [local go_sem] max2_int min2_int max_two min_two max_three min_three max_four min_four   -- for this text's walks alone
set_option linter.unusedVariables false
set_option linter.unusedSimpArgs false

/-! ### date_Print: function 11 -/
def date_Print.l1 : Nat → List Int → Int → Int → Option (List Int)
  | 0, _, _, _ => none
  | k + 1, l, i, n => if n > 0 then (if 0 ≤ i then (if i < 10 then (date_Print.l1 k (l.set i.toNat (48 + n % 10)) (i - 1) (wrap64 (Int.tdiv n 10))) else none) else none) else (some l)
def date_Print.f (k : Nat) (a0 : Int) : Option (ByteArray) := (date_Parts.f k a0).bind fun t => (if t.2.2.2 = true then ((date_Print.l1 k ([48, 48, 48, 48, 45, 48, 48, 45, 48, 48] : List Int) 3 t.1).bind fun l1 => ((date_Print.l1 k l1 6 t.2.1).bind fun l2 => ((date_Print.l1 k l2 9 t.2.2.1).bind fun l3 => some (strOfNums l3)))) else (some (⟨#[]⟩ : ByteArray)))
theorem date_Print.mono_l : ∀ k, (∀ y0 y1 y2, LeO (date_Print.l1 k y0 y1 y2) (date_Print.l1 (k + 1) y0 y1 y2))
  | 0 => fun _ _ _ r h => by simp [date_Print.l1] at h
  | k + 1 => by
    have ih0 := date_Print.mono_l k
    · intro y0 y1 y2
      unfold date_Print.l1
      repeat' first
      | (with_reducible exact ih0 _ _ _)
      | (with_reducible exact LeO.refl _)
      | (with_reducible exact LeO.none _)
      | (with_reducible refine LeO.ite ?_ ?_)
theorem date_Print.mono : ∀ a0 k, LeO (date_Print.f k a0) (date_Print.f (k + 1) a0) := by
  intro a0 k
  have ih0 := date_Print.mono_l k
  unfold date_Print.f
  repeat' first
      | (with_reducible exact ih0 _ _ _)
      | (with_reducible exact date_Parts.mono _ _)
      | (with_reducible exact LeO.refl _)
      | (with_reducible exact LeO.none _)
      | (with_reducible refine LeO.ite ?_ ?_)
      | (with_reducible refine LeO.bind ?_ (fun _ => ?_))
set_option maxHeartbeats 8000000 in
set_option maxRecDepth 100000 in
theorem date_Print.calls (k : Nat) (a0 : Int) (r : ByteArray) (w : World) (h : date_Print.f k a0 = some r) :
    Calls Try.prog 11 #[.int .i64 a0] w fun e w' => e = .returned (.string r) ∧ Below w.heap.size w w' := by
  unfold date_Print.f at h
  obtain ⟨⟨y, m, d, ok⟩, A10, H⟩ := Option.bind_eq_some_iff.mp h
  have A1 := Aside0.mk A10
  clear A10 h
  cases ok with
  | false =>
    simp only [Bool.false_eq_true, if_false, Option.some.injEq] at H
    subst H
    go_enter Try.func11, Try.ntmps11
    go_wp2_with (go_at_call 8; refine (date_Parts.calls k a0 y m d false _ A1.out).mono ?_; rintro e w1 ⟨rfl, nd, rfl⟩)
    go_ret
    exact ⟨rfl, by apply pw_below_drewN; exact Below.refl _ _⟩
  | true =>
    simp only [if_true] at H
    obtain ⟨l1, h1, H⟩ := Option.bind_eq_some_iff.mp H
    obtain ⟨l2, h2, H⟩ := Option.bind_eq_some_iff.mp H
    obtain ⟨l3, h3, H⟩ := Option.bind_eq_some_iff.mp H
    have H1 := Aside0.mk h1
    have H2 := Aside0.mk h2
    have H3 := Aside0.mk h3
    obtain rfl := Option.some.inj H
    clear h1 h2 h3 H
    have kc : ∀ n : Nat, (convert 40 40 (Value.slice (some ⟨w.heap.size, 0, none⟩) 10 10)).run Try.prog ((w.drewN n).alloc (.cells #[.int .u8 48, .int .u8 48, .int .u8 48, .int .u8 48, .int .u8 45, .int .u8 48, .int .u8 48, .int .u8 45, .int .u8 48, .int .u8 48] 5)) = .ok (Value.slice (some ⟨w.heap.size, 0, none⟩) 10 10) ((w.drewN n).alloc (.cells #[.int .u8 48, .int .u8 48, .int .u8 48, .int .u8 48, .int .u8 45, .int .u8 48, .int .u8 48, .int .u8 45, .int .u8 48, .int .u8 48] 5 (10, 11))) := fun n => Lib.run_convert_bytes_const (P := Try.prog) (w.drewN n) 40 5 _ 10 10 Try.underlying40 Try.underlying5
    have x0 : ∀ w : World, (Instr.index 39 (.agg #[.int .i64 3, .int .i64 6, .int .i64 9]) (.int .i64 0)).run Try.prog w = .ok (.int .i64 3) w := fun _ => by kernel_rfl
    have x1 : ∀ w : World, (Instr.index 39 (.agg #[.int .i64 3, .int .i64 6, .int .i64 9]) (.int .i64 1)).run Try.prog w = .ok (.int .i64 6) w := fun _ => by kernel_rfl
    have x2 : ∀ w : World, (Instr.index 39 (.agg #[.int .i64 3, .int .i64 6, .int .i64 9]) (.int .i64 2)).run Try.prog w = .ok (.int .i64 9) w := fun _ => by kernel_rfl
    have y0 : ∀ w : World, (Instr.index 39 (.agg #[.int .i64 y, .int .i64 m, .int .i64 d]) (.int .i64 0)).run Try.prog w = .ok (.int .i64 y) w := fun _ => by kernel_rfl
    have y1 : ∀ w : World, (Instr.index 39 (.agg #[.int .i64 y, .int .i64 m, .int .i64 d]) (.int .i64 1)).run Try.prog w = .ok (.int .i64 m) w := fun _ => by kernel_rfl
    have y2 : ∀ w : World, (Instr.index 39 (.agg #[.int .i64 y, .int .i64 m, .int .i64 d]) (.int .i64 2)).run Try.prog w = .ok (.int .i64 d) w := fun _ => by kernel_rfl
    go_enter Try.func11, Try.ntmps11
    go_wp2_with (go_at_call 8; refine (date_Parts.calls k a0 y m d true _ A1.out).mono ?_; rintro e w1 ⟨rfl, nd, rfl⟩)
    go_loopg [23] 3 (fun g v23 w' => ∃ (j : Int) (L : List Int), v23 = .int .i64 j ∧ Aside0 ((g : Int) + j = 3) ∧ Aside0 ((j = 0 ∧ L = [48, 48, 48, 48, 45, 48, 48, 45, 48, 48]) ∨ (j = 1 ∧ L = l1) ∨ (j = 2 ∧ L = l2) ∨ (j = 3 ∧ L = l3)) ∧ Aside0 (L.length = 10) ∧ Aside0 (X.BlkM w' w.heap.size 5 (10, 11) (L.map (Value.int .u8)).toArray) ∧ Aside0 (Below w.heap.size w w'))
    case atStart => exact ⟨0, _, rfl, ⟨rfl⟩, ⟨.inl ⟨rfl, rfl⟩⟩, ⟨rfl⟩, ⟨X.BlkM.new _ _ _ _⟩, ⟨by apply below_alloc; apply pw_below_drewN; exact Below.refl _ _⟩⟩
    case round =>
      clear kc
      obtain ⟨j, L, rfl, HG, HJ, HL, HC, HB⟩ := hrel
      rcases HJ.out with ⟨rfl, rfl⟩ | ⟨rfl, rfl⟩ | ⟨rfl, rfl⟩ | ⟨rfl, rfl⟩
      · clear HJ
        have HGo := HG
        go_wp2
        go_loopg [9, 10] k (fun kq v9 v10 w' => ∃ (i n : Int) (M : List Int), v9 = .int .i64 i ∧ v10 = .int .i64 n ∧ Aside0 (date_Print.l1 kq M i n = some l1) ∧ Aside0 (kq ≤ k) ∧ Aside0 (M.length = 10) ∧ Aside0 (X.BlkM w' w.heap.size 5 (10, 11) (M.map (Value.int .u8)).toArray) ∧ Aside0 (Below w.heap.size w w'))
        case atStart => exact ⟨_, _, _, rfl, rfl, H1, ⟨Nat.le_refl _⟩, HL, HC, HB⟩
        case round =>
          clear HL HC HB
          obtain ⟨i, n, M, rfl, rfl, HA, HK, HL, HC, HB⟩ := hrel
          cases gk with
          | zero => exact absurd HA.out (by simp [date_Print.l1])
          | succ k1 =>
            have H := HA.out
            clear HA
            simp only [date_Print.l1] at H
            by_cases c1 : n > 0
            · rw [if_pos c1] at H
              have c1b0 : decide (0 < n) = true := decide_eq_true c1
              by_cases c2 : 0 ≤ i
              · rw [if_pos c2] at H
                by_cases c3 : i < 10
                · rw [if_pos c3] at H
                  have H' := Aside0.mk H
                  clear H
                  have hlt : i.toNat < M.length := by rw [HL.out]; omega
                  have hcc := HC.out.cell i.toNat
                  have hff := HC.out.frozen i.toNat (by show i.toNat < 10; omega)
                  have hcv : (M.map (Value.int .u8)).toArray[i.toNat]? = some (.int .u8 (rd M i)) := by simp [rd, hlt]
                  rw [hcv] at hcc
                  clear hcv hlt
                  have HS := Aside0.mk (show ∀ u : Int, ((M.map (Value.int .u8)).toArray).setIfInBounds i.toNat (.int .u8 u) = ((M.set i.toNat u).map (Value.int .u8)).toArray from fun u => by simp [List.map_set])
                  go_wp2
                  go_roundg k1
                  case measure => omega
                  case rel => exact ⟨_, _, _, rfl, rfl, H', ⟨by have := HK.out; omega⟩, ⟨by rw [List.length_set]; exact HL.out⟩, ⟨HS.out (48 + n % 10) ▸ HC.out.set_ i.toNat _⟩, ⟨HB.out.setCell (Nat.le_refl _) _⟩⟩
                · rw [if_neg c3] at H
                  exact absurd H (by simp)
              · rw [if_neg c2] at H
                exact absurd H (by simp)
            · rw [if_neg c1] at H
              have c1b0 : decide (0 < n) = false := decide_eq_false c1
              obtain rfl := Option.some.inj H
              go_wp2
              go_roundg 2
              case measure => have := HGo.out; omega
              case rel => exact ⟨_, _, rfl, ⟨rfl⟩, ⟨.inr (.inl ⟨rfl, rfl⟩)⟩, HL, HC, HB⟩
      · clear HJ
        have HGo := HG
        go_wp2
        go_loopg [9, 10] k (fun kq v9 v10 w' => ∃ (i n : Int) (M : List Int), v9 = .int .i64 i ∧ v10 = .int .i64 n ∧ Aside0 (date_Print.l1 kq M i n = some l2) ∧ Aside0 (kq ≤ k) ∧ Aside0 (M.length = 10) ∧ Aside0 (X.BlkM w' w.heap.size 5 (10, 11) (M.map (Value.int .u8)).toArray) ∧ Aside0 (Below w.heap.size w w'))
        case atStart => exact ⟨_, _, _, rfl, rfl, H2, ⟨Nat.le_refl _⟩, HL, HC, HB⟩
        case round =>
          clear HL HC HB
          obtain ⟨i, n, M, rfl, rfl, HA, HK, HL, HC, HB⟩ := hrel
          cases gk with
          | zero => exact absurd HA.out (by simp [date_Print.l1])
          | succ k1 =>
            have H := HA.out
            clear HA
            simp only [date_Print.l1] at H
            by_cases c1 : n > 0
            · rw [if_pos c1] at H
              have c1b0 : decide (0 < n) = true := decide_eq_true c1
              by_cases c2 : 0 ≤ i
              · rw [if_pos c2] at H
                by_cases c3 : i < 10
                · rw [if_pos c3] at H
                  have H' := Aside0.mk H
                  clear H
                  have hlt : i.toNat < M.length := by rw [HL.out]; omega
                  have hcc := HC.out.cell i.toNat
                  have hff := HC.out.frozen i.toNat (by show i.toNat < 10; omega)
                  have hcv : (M.map (Value.int .u8)).toArray[i.toNat]? = some (.int .u8 (rd M i)) := by simp [rd, hlt]
                  rw [hcv] at hcc
                  clear hcv hlt
                  have HS := Aside0.mk (show ∀ u : Int, ((M.map (Value.int .u8)).toArray).setIfInBounds i.toNat (.int .u8 u) = ((M.set i.toNat u).map (Value.int .u8)).toArray from fun u => by simp [List.map_set])
                  go_wp2
                  go_roundg k1
                  case measure => omega
                  case rel => exact ⟨_, _, _, rfl, rfl, H', ⟨by have := HK.out; omega⟩, ⟨by rw [List.length_set]; exact HL.out⟩, ⟨HS.out (48 + n % 10) ▸ HC.out.set_ i.toNat _⟩, ⟨HB.out.setCell (Nat.le_refl _) _⟩⟩
                · rw [if_neg c3] at H
                  exact absurd H (by simp)
              · rw [if_neg c2] at H
                exact absurd H (by simp)
            · rw [if_neg c1] at H
              have c1b0 : decide (0 < n) = false := decide_eq_false c1
              obtain rfl := Option.some.inj H
              go_wp2
              go_roundg 1
              case measure => have := HGo.out; omega
              case rel => exact ⟨_, _, rfl, ⟨rfl⟩, ⟨.inr (.inr (.inl ⟨rfl, rfl⟩))⟩, HL, HC, HB⟩
      · clear HJ
        have HGo := HG
        go_wp2
        go_loopg [9, 10] k (fun kq v9 v10 w' => ∃ (i n : Int) (M : List Int), v9 = .int .i64 i ∧ v10 = .int .i64 n ∧ Aside0 (date_Print.l1 kq M i n = some l3) ∧ Aside0 (kq ≤ k) ∧ Aside0 (M.length = 10) ∧ Aside0 (X.BlkM w' w.heap.size 5 (10, 11) (M.map (Value.int .u8)).toArray) ∧ Aside0 (Below w.heap.size w w'))
        case atStart => exact ⟨_, _, _, rfl, rfl, H3, ⟨Nat.le_refl _⟩, HL, HC, HB⟩
        case round =>
          clear HL HC HB
          obtain ⟨i, n, M, rfl, rfl, HA, HK, HL, HC, HB⟩ := hrel
          cases gk with
          | zero => exact absurd HA.out (by simp [date_Print.l1])
          | succ k1 =>
            have H := HA.out
            clear HA
            simp only [date_Print.l1] at H
            by_cases c1 : n > 0
            · rw [if_pos c1] at H
              have c1b0 : decide (0 < n) = true := decide_eq_true c1
              by_cases c2 : 0 ≤ i
              · rw [if_pos c2] at H
                by_cases c3 : i < 10
                · rw [if_pos c3] at H
                  have H' := Aside0.mk H
                  clear H
                  have hlt : i.toNat < M.length := by rw [HL.out]; omega
                  have hcc := HC.out.cell i.toNat
                  have hff := HC.out.frozen i.toNat (by show i.toNat < 10; omega)
                  have hcv : (M.map (Value.int .u8)).toArray[i.toNat]? = some (.int .u8 (rd M i)) := by simp [rd, hlt]
                  rw [hcv] at hcc
                  clear hcv hlt
                  have HS := Aside0.mk (show ∀ u : Int, ((M.map (Value.int .u8)).toArray).setIfInBounds i.toNat (.int .u8 u) = ((M.set i.toNat u).map (Value.int .u8)).toArray from fun u => by simp [List.map_set])
                  go_wp2
                  go_roundg k1
                  case measure => omega
                  case rel => exact ⟨_, _, _, rfl, rfl, H', ⟨by have := HK.out; omega⟩, ⟨by rw [List.length_set]; exact HL.out⟩, ⟨HS.out (48 + n % 10) ▸ HC.out.set_ i.toNat _⟩, ⟨HB.out.setCell (Nat.le_refl _) _⟩⟩
                · rw [if_neg c3] at H
                  exact absurd H (by simp)
              · rw [if_neg c2] at H
                exact absurd H (by simp)
            · rw [if_neg c1] at H
              have c1b0 : decide (0 < n) = false := decide_eq_false c1
              obtain rfl := Option.some.inj H
              go_wp2
              go_roundg 0
              case measure => have := HGo.out; omega
              case rel => exact ⟨_, _, rfl, ⟨rfl⟩, ⟨.inr (.inr (.inr ⟨rfl, rfl⟩))⟩, HL, HC, HB⟩
      · clear HJ
        have hcv := run_convert_bytes_arg wr 40 5 Try.underlying40 Try.underlying5 w.heap.size 0 10 10 L HL.out (fun i hi => by
          have hlt : i < L.length := by rw [HL.out]; omega
          rw [Nat.zero_add, HC.out.cell i]
          simp [hlt]) 9 Try.underlying9
        go_wp2
        go_ret
        exact ⟨rfl, HB.out⟩
/-! ### date_Weekday: function 13 -/
def date_Weekday.f (a0 : Int) : Option (Int) := (date_good.f a0).bind fun t114 => (if t114 = true then (some (wrap64 ((Int.tmod a0 7) + 1))) else (some 0))
set_option maxHeartbeats 8000000 in
set_option maxRecDepth 100000 in
theorem date_Weekday.calls (a0 : Int) (r : Int) (w : World) (h : date_Weekday.f a0 = some r) :
    Calls Try.prog 13 #[.int .i64 a0] w fun e w' => e = .returned (.int .i64 r) ∧ Drawn0 w w' := by
  have H : ((date_good.f a0).bind fun t114 => (if t114 = true then (some (wrap64 ((Int.tmod a0 7) + 1))) else (some 0))) = some r := h
  clear h
  replace H := Option.bind_eq_some_iff.mp H
  obtain ⟨t114, A20, H⟩ := H
  replace H : (if t114 = true then (some (wrap64 ((Int.tmod a0 7) + 1))) else (some 0)) = some r := H
  have A2 := Aside0.mk A20
  clear A20
  by_cases c3 : t114 = true
  · subst c3
    have H1 : (some (wrap64 ((Int.tmod a0 7) + 1))) = some r := by rw [if_pos rfl] at H; exact H
    clear H
    have H := H1
    clear H1
    obtain rfl := Option.some.inj H
    go_enter Try.func13, Try.ntmps13
    go_wp2_with (first | ((with_reducible refine gate_callee (f := 29) rfl ?_); refine goesL_ (some 4) rfl rfl Try.func29 (by kernel_rfl) rfl #[.int .i64 a0] rfl (by (try simp only [List.map_toArray, List.map_cons, List.map_nil]); first | done | rfl | (simp only [List.length_drop, List.length_take]; rfl)) ?_; (with_reducible refine (date_good.calls a0 true _ A2.out).mono ?_); rintro e w' ⟨rfl, ⟨nd, rfl⟩⟩; refine ⟨_, rfl, ?_⟩))
    go_ret
    exact ⟨by first | rfl | (simp; done) | (simp [*]; done), by repeat (first | exact Drawn0.refl _ | apply Drawn0.step)⟩
  · replace c3 := Bool.eq_false_iff.mpr c3
    subst c3
    have H1 : (some 0) = some r := by rw [if_neg (show ¬ (false = true) by decide)] at H; exact H
    clear H
    have H := H1
    clear H1
    obtain rfl := Option.some.inj H
    go_enter Try.func13, Try.ntmps13
    go_wp2_with (first | ((with_reducible refine gate_callee (f := 29) rfl ?_); refine goesL_ (some 4) rfl rfl Try.func29 (by kernel_rfl) rfl #[.int .i64 a0] rfl (by (try simp only [List.map_toArray, List.map_cons, List.map_nil]); first | done | rfl | (simp only [List.length_drop, List.length_take]; rfl)) ?_; (with_reducible refine (date_good.calls a0 false _ A2.out).mono ?_); rintro e w' ⟨rfl, ⟨nd, rfl⟩⟩; refine ⟨_, rfl, ?_⟩))
    go_ret
    exact ⟨by first | rfl | (simp; done) | (simp [*]; done), by repeat (first | exact Drawn0.refl _ | apply Drawn0.step)⟩

/-! ### date_Week: function 15 -/
def date_Week.f (k : Nat) (a0 : Int) : Option (Int) := (date_good.f a0).bind fun t115 => (if t115 = true then ((date_Parts.f k (wrap64 ((wrap64 (a0 - (Int.tmod (wrap64 (a0 - 1)) 7))) + 3))).bind fun bt116 => ((date_Day.f k bt116.1 1 1).bind fun bt120 => (some (wrap64 ((wrap64 (Int.tdiv (wrap64 ((wrap64 ((wrap64 (a0 - (Int.tmod (wrap64 (a0 - 1)) 7))) + 3)) - bt120.1)) 7)) + 1))))) else (some 0))
theorem date_Week.mono : ∀ a0 k, LeO (date_Week.f k a0) (date_Week.f (k + 1) a0) := by
  intro a0 k
  unfold date_Week.f
  repeat' first
      | (with_reducible exact date_Day.mono _ _ _ _)
      | (with_reducible exact date_Parts.mono _ _)
      | (with_reducible exact LeO.refl _)
      | (with_reducible exact LeO.none _)
      | (with_reducible refine LeO.ite ?_ ?_)
      | (with_reducible refine LeO.bind ?_ (fun _ => ?_))
      | exact date_Day.mono _ _ _ _
      | exact date_Parts.mono _ _
      | exact LeO.none _
      | refine LeO.ite ?_ ?_
      | refine LeO.bind ?_ (fun _ => ?_)
set_option maxHeartbeats 8000000 in
set_option maxRecDepth 100000 in
theorem date_Week.calls (k : Nat) (a0 : Int) (r : Int) (w : World) (h : date_Week.f k a0 = some r) :
    Calls Try.prog 15 #[.int .i64 a0] w fun e w' => e = .returned (.int .i64 r) ∧ Drawn0 w w' := by
  have H : ((date_good.f a0).bind fun t115 => (if t115 = true then ((date_Parts.f k (wrap64 ((wrap64 (a0 - (Int.tmod (wrap64 (a0 - 1)) 7))) + 3))).bind fun bt116 => ((date_Day.f k bt116.1 1 1).bind fun bt120 => (some (wrap64 ((wrap64 (Int.tdiv (wrap64 ((wrap64 ((wrap64 (a0 - (Int.tmod (wrap64 (a0 - 1)) 7))) + 3)) - bt120.1)) 7)) + 1))))) else (some 0))) = some r := h
  clear h
  replace H := Option.bind_eq_some_iff.mp H
  obtain ⟨t115, A20, H⟩ := H
  replace H : (if t115 = true then ((date_Parts.f k (wrap64 ((wrap64 (a0 - (Int.tmod (wrap64 (a0 - 1)) 7))) + 3))).bind fun bt116 => ((date_Day.f k bt116.1 1 1).bind fun bt120 => (some (wrap64 ((wrap64 (Int.tdiv (wrap64 ((wrap64 ((wrap64 (a0 - (Int.tmod (wrap64 (a0 - 1)) 7))) + 3)) - bt120.1)) 7)) + 1))))) else (some 0)) = some r := H
  have A2 := Aside0.mk A20
  clear A20
  by_cases c3 : t115 = true
  · subst c3
    have H1 : ((date_Parts.f k (wrap64 ((wrap64 (a0 - (Int.tmod (wrap64 (a0 - 1)) 7))) + 3))).bind fun bt116 => ((date_Day.f k bt116.1 1 1).bind fun bt120 => (some (wrap64 ((wrap64 (Int.tdiv (wrap64 ((wrap64 ((wrap64 (a0 - (Int.tmod (wrap64 (a0 - 1)) 7))) + 3)) - bt120.1)) 7)) + 1))))) = some r := by rw [if_pos rfl] at H; exact H
    clear H
    have H := H1
    clear H1
    replace H := Option.bind_eq_some_iff.mp H
    obtain ⟨⟨t116, t117, t118, t119⟩, A40, H⟩ := H
    replace H : ((date_Day.f k t116 1 1).bind fun bt120 => (some (wrap64 ((wrap64 (Int.tdiv (wrap64 ((wrap64 ((wrap64 (a0 - (Int.tmod (wrap64 (a0 - 1)) 7))) + 3)) - bt120.1)) 7)) + 1)))) = some r := H
    have A4 := Aside0.mk A40
    clear A40
    replace H := Option.bind_eq_some_iff.mp H
    obtain ⟨⟨t120, t121⟩, A50, H⟩ := H
    replace H : (some (wrap64 ((wrap64 (Int.tdiv (wrap64 ((wrap64 ((wrap64 (a0 - (Int.tmod (wrap64 (a0 - 1)) 7))) + 3)) - t120)) 7)) + 1))) = some r := H
    have A5 := Aside0.mk A50
    clear A50
    obtain rfl := Option.some.inj H
    go_enter Try.func15, Try.ntmps15
    go_wp2_with (first | ((with_reducible refine gate_callee (f := 29) rfl ?_); refine goesL_ (some 11) rfl rfl Try.func29 (by kernel_rfl) rfl #[.int .i64 a0] rfl (by (try simp only [List.map_toArray, List.map_cons, List.map_nil]); first | done | rfl | (simp only [List.length_drop, List.length_take]; rfl)) ?_; (with_reducible refine (date_good.calls a0 true _ A2.out).mono ?_); rintro e w' ⟨rfl, ⟨nd, rfl⟩⟩; refine ⟨_, rfl, ?_⟩) | ((with_reducible refine gate_callee (f := 8) rfl ?_); refine goesL_ (some 21) rfl rfl Try.func8 (by kernel_rfl) rfl #[.int .i64 (wrap64 ((wrap64 (a0 - (Int.tmod (wrap64 (a0 - 1)) 7))) + 3))] rfl (by (try simp only [List.map_toArray, List.map_cons, List.map_nil]); first | done | rfl | (simp only [List.length_drop, List.length_take]; rfl)) ?_; (with_reducible refine (date_Parts.calls k (wrap64 ((wrap64 (a0 - (Int.tmod (wrap64 (a0 - 1)) 7))) + 3)) t116 t117 t118 t119 _ A4.out).mono ?_); rintro e w' ⟨rfl, ⟨nd, rfl⟩⟩; refine ⟨_, rfl, ?_⟩) | ((with_reducible refine gate_callee (f := 9) rfl ?_); refine goesL_ (some 28) rfl rfl Try.func9 (by kernel_rfl) rfl #[.int .i64 t116, .int .i64 1, .int .i64 1] rfl (by (try simp only [List.map_toArray, List.map_cons, List.map_nil]); first | done | rfl | (simp only [List.length_drop, List.length_take]; rfl)) ?_; (with_reducible refine (date_Day.calls k t116 1 1 t120 t121 _ A5.out).mono ?_); rintro e w' ⟨rfl, ⟨nd, rfl⟩⟩; refine ⟨_, rfl, ?_⟩))
    go_ret
    exact ⟨by first | rfl | (simp; done) | (simp [*]; done), by repeat (first | exact Drawn0.refl _ | apply Drawn0.step)⟩
  · replace c3 := Bool.eq_false_iff.mpr c3
    subst c3
    have H1 : (some 0) = some r := by rw [if_neg (show ¬ (false = true) by decide)] at H; exact H
    clear H
    have H := H1
    clear H1
    obtain rfl := Option.some.inj H
    go_enter Try.func15, Try.ntmps15
    go_wp2_with (first | ((with_reducible refine gate_callee (f := 29) rfl ?_); refine goesL_ (some 11) rfl rfl Try.func29 (by kernel_rfl) rfl #[.int .i64 a0] rfl (by (try simp only [List.map_toArray, List.map_cons, List.map_nil]); first | done | rfl | (simp only [List.length_drop, List.length_take]; rfl)) ?_; (with_reducible refine (date_good.calls a0 false _ A2.out).mono ?_); rintro e w' ⟨rfl, ⟨nd, rfl⟩⟩; refine ⟨_, rfl, ?_⟩))
    go_ret
    exact ⟨by first | rfl | (simp; done) | (simp [*]; done), by repeat (first | exact Drawn0.refl _ | apply Drawn0.step)⟩

/-! ### octavolaw07_lives: function 14 -/
def octavolaw07_lives.f (k : Nat)  : Option (Bool) := (date_Day.f k 1900 1 1).bind fun bt122 => ((date_Day.f k 1900 2 29).bind fun bt124 => ((date_Parse.f k (⟨#[50, 48, 50, 49, 45, 48, 49, 45, 48, 51]⟩ : ByteArray)).bind fun bt126 => (if bt122.1 = 1 then (if bt122.2 = true then (if bt124.2 = true then (some false) else (if bt126.2 = true then ((date_Week.f k bt126.1).bind fun t128 => (if t128 = 53 then ((date_Weekday.f 1).bind fun t129 => (if t129 = 2 then ((date_Print.f k bt126.1).bind fun t130 => (some (t130.toList == ([50, 48, 50, 49, 45, 48, 49, 45, 48, 51] : List UInt8)))) else (some false))) else (some false))) else (some false))) else (some false)) else (some false))))
theorem octavolaw07_lives.mono : ∀ k, LeO (octavolaw07_lives.f k ) (octavolaw07_lives.f (k + 1) ) := by
  intro  k
  unfold octavolaw07_lives.f
  repeat' first
      | (with_reducible exact date_Day.mono _ _ _ _)
      | (with_reducible exact date_Parse.mono _ _)
      | (with_reducible exact date_Print.mono _ _)
      | (with_reducible exact date_Week.mono _ _)
      | (with_reducible exact LeO.refl _)
      | (with_reducible exact LeO.none _)
      | (with_reducible refine LeO.ite ?_ ?_)
      | (with_reducible refine LeO.bind ?_ (fun _ => ?_))
      | exact date_Day.mono _ _ _ _
      | exact date_Parse.mono _ _
      | exact date_Print.mono _ _
      | exact date_Week.mono _ _
      | exact LeO.none _
      | refine LeO.ite ?_ ?_
      | refine LeO.bind ?_ (fun _ => ?_)
set_option maxHeartbeats 8000000 in
set_option maxRecDepth 100000 in
theorem octavolaw07_lives.calls (k : Nat)  (r : Bool) (w : World) (h : octavolaw07_lives.f k  = some r) :
    Calls Try.prog 14 #[] w fun e w' => e = .returned (.bool r) ∧ Below w.heap.size w w' := by
  have HB := Aside0.mk (Below.refl w.heap.size w)
  have H : ((date_Day.f k 1900 1 1).bind fun bt122 => ((date_Day.f k 1900 2 29).bind fun bt124 => ((date_Parse.f k (⟨#[50, 48, 50, 49, 45, 48, 49, 45, 48, 51]⟩ : ByteArray)).bind fun bt126 => (if bt122.1 = 1 then (if bt122.2 = true then (if bt124.2 = true then (some false) else (if bt126.2 = true then ((date_Week.f k bt126.1).bind fun t128 => (if t128 = 53 then ((date_Weekday.f 1).bind fun t129 => (if t129 = 2 then ((date_Print.f k bt126.1).bind fun t130 => (some (t130.toList == ([50, 48, 50, 49, 45, 48, 49, 45, 48, 51] : List UInt8)))) else (some false))) else (some false))) else (some false))) else (some false)) else (some false))))) = some r := h
  clear h
  replace H := Option.bind_eq_some_iff.mp H
  obtain ⟨⟨t122, t123⟩, A10, H⟩ := H
  replace H : ((date_Day.f k 1900 2 29).bind fun bt124 => ((date_Parse.f k (⟨#[50, 48, 50, 49, 45, 48, 49, 45, 48, 51]⟩ : ByteArray)).bind fun bt126 => (if t122 = 1 then (if t123 = true then (if bt124.2 = true then (some false) else (if bt126.2 = true then ((date_Week.f k bt126.1).bind fun t128 => (if t128 = 53 then ((date_Weekday.f 1).bind fun t129 => (if t129 = 2 then ((date_Print.f k bt126.1).bind fun t130 => (some (t130.toList == ([50, 48, 50, 49, 45, 48, 49, 45, 48, 51] : List UInt8)))) else (some false))) else (some false))) else (some false))) else (some false)) else (some false)))) = some r := H
  have A1 := Aside0.mk A10
  clear A10
  replace H := Option.bind_eq_some_iff.mp H
  obtain ⟨⟨t124, t125⟩, A20, H⟩ := H
  replace H : ((date_Parse.f k (⟨#[50, 48, 50, 49, 45, 48, 49, 45, 48, 51]⟩ : ByteArray)).bind fun bt126 => (if t122 = 1 then (if t123 = true then (if t125 = true then (some false) else (if bt126.2 = true then ((date_Week.f k bt126.1).bind fun t128 => (if t128 = 53 then ((date_Weekday.f 1).bind fun t129 => (if t129 = 2 then ((date_Print.f k bt126.1).bind fun t130 => (some (t130.toList == ([50, 48, 50, 49, 45, 48, 49, 45, 48, 51] : List UInt8)))) else (some false))) else (some false))) else (some false))) else (some false)) else (some false))) = some r := H
  have A2 := Aside0.mk A20
  clear A20
  replace H := Option.bind_eq_some_iff.mp H
  obtain ⟨⟨t126, t127⟩, A30, H⟩ := H
  replace H : (if t122 = 1 then (if t123 = true then (if t125 = true then (some false) else (if t127 = true then ((date_Week.f k t126).bind fun t128 => (if t128 = 53 then ((date_Weekday.f 1).bind fun t129 => (if t129 = 2 then ((date_Print.f k t126).bind fun t130 => (some (t130.toList == ([50, 48, 50, 49, 45, 48, 49, 45, 48, 51] : List UInt8)))) else (some false))) else (some false))) else (some false))) else (some false)) else (some false)) = some r := H
  have A3 := Aside0.mk A30
  clear A30
  by_cases c4 : t122 = 1
  · rw [if_pos c4] at H
    have c4b0 : (t122 == 1) = true := beq_iff_eq.mpr c4
    have c4b1 : (t122 != 1) = false := bne_eq_false_iff_eq.mpr c4
    clear c4
    by_cases c5 : t123 = true
    · subst c5
      have H1 : (if t125 = true then (some false) else (if t127 = true then ((date_Week.f k t126).bind fun t128 => (if t128 = 53 then ((date_Weekday.f 1).bind fun t129 => (if t129 = 2 then ((date_Print.f k t126).bind fun t130 => (some (t130.toList == ([50, 48, 50, 49, 45, 48, 49, 45, 48, 51] : List UInt8)))) else (some false))) else (some false))) else (some false))) = some r := by rw [if_pos rfl] at H; exact H
      clear H
      have H := H1
      clear H1
      by_cases c6 : t125 = true
      · subst c6
        have H1 : (some false) = some r := by rw [if_pos rfl] at H; exact H
        clear H
        have H := H1
        clear H1
        obtain rfl := Option.some.inj H
        go_enter Try.func14, Try.ntmps14
        go_wp2_with (first | ((with_reducible refine gate_callee (f := 9) rfl ?_); refine goesL_ (some 8) rfl rfl Try.func9 (by kernel_rfl) rfl #[.int .i64 1900, .int .i64 1, .int .i64 1] rfl (by (try simp only [List.map_toArray, List.map_cons, List.map_nil]); first | done | rfl | (simp only [List.length_drop, List.length_take]; rfl)) ?_; (with_reducible refine (date_Day.calls k 1900 1 1 t122 true _ A1.out).mono ?_); rintro e w' ⟨rfl, ⟨nd, rfl⟩⟩; refine ⟨_, rfl, ?_⟩) | ((with_reducible refine gate_callee (f := 9) rfl ?_); refine goesL_ (some 12) rfl rfl Try.func9 (by kernel_rfl) rfl #[.int .i64 1900, .int .i64 2, .int .i64 29] rfl (by (try simp only [List.map_toArray, List.map_cons, List.map_nil]); first | done | rfl | (simp only [List.length_drop, List.length_take]; rfl)) ?_; (with_reducible refine (date_Day.calls k 1900 2 29 t124 true _ A2.out).mono ?_); rintro e w' ⟨rfl, ⟨nd, rfl⟩⟩; refine ⟨_, rfl, ?_⟩) | ((with_reducible refine gate_callee (f := 10) rfl ?_); refine goesL_ (some 16) rfl rfl Try.func10 (by kernel_rfl) rfl #[.string (⟨#[50, 48, 50, 49, 45, 48, 49, 45, 48, 51]⟩ : ByteArray)] rfl (by (try simp only [List.map_toArray, List.map_cons, List.map_nil]); first | done | rfl | (simp only [List.length_drop, List.length_take]; rfl)) ?_; (with_reducible refine (date_Parse.calls k (⟨#[50, 48, 50, 49, 45, 48, 49, 45, 48, 51]⟩ : ByteArray) t126 t127 _ A3.out).mono ?_); rintro e w7 ⟨rfl, hb⟩; refine ⟨_, rfl, ?_⟩; have n0_ := Aside0.mk (below_step (by repeat (first | (with_reducible first | exact HB.out | apply below_alloc | apply pw_below_drewN | apply below_drew1) | exact HB.out)) hb); clear HB; have HB := n0_; clear n0_; (try clear hb); (try clear hb2); (try clear hk); (try clear hi)))
        go_ret
        exact ⟨by first | rfl | (simp [errW_none, errW_some] <;> rfl) | (simp [*, errW_none, errW_some] <;> rfl), by repeat (first | (with_reducible first | exact HB.out | apply below_alloc | apply pw_below_drewN | apply below_drew1) | exact HB.out)⟩
      · replace c6 := Bool.eq_false_iff.mpr c6
        subst c6
        have H1 : (if t127 = true then ((date_Week.f k t126).bind fun t128 => (if t128 = 53 then ((date_Weekday.f 1).bind fun t129 => (if t129 = 2 then ((date_Print.f k t126).bind fun t130 => (some (t130.toList == ([50, 48, 50, 49, 45, 48, 49, 45, 48, 51] : List UInt8)))) else (some false))) else (some false))) else (some false)) = some r := by rw [if_neg (show ¬ (false = true) by decide)] at H; exact H
        clear H
        have H := H1
        clear H1
        by_cases c8 : t127 = true
        · subst c8
          have H1 : ((date_Week.f k t126).bind fun t128 => (if t128 = 53 then ((date_Weekday.f 1).bind fun t129 => (if t129 = 2 then ((date_Print.f k t126).bind fun t130 => (some (t130.toList == ([50, 48, 50, 49, 45, 48, 49, 45, 48, 51] : List UInt8)))) else (some false))) else (some false))) = some r := by rw [if_pos rfl] at H; exact H
          clear H
          have H := H1
          clear H1
          replace H := Option.bind_eq_some_iff.mp H
          obtain ⟨t128, A90, H⟩ := H
          replace H : (if t128 = 53 then ((date_Weekday.f 1).bind fun t129 => (if t129 = 2 then ((date_Print.f k t126).bind fun t130 => (some (t130.toList == ([50, 48, 50, 49, 45, 48, 49, 45, 48, 51] : List UInt8)))) else (some false))) else (some false)) = some r := H
          have A9 := Aside0.mk A90
          clear A90
          by_cases c10 : t128 = 53
          · rw [if_pos c10] at H
            have c10b0 : (t128 == 53) = true := beq_iff_eq.mpr c10
            have c10b1 : (t128 != 53) = false := bne_eq_false_iff_eq.mpr c10
            clear c10
            replace H := Option.bind_eq_some_iff.mp H
            obtain ⟨t129, A110, H⟩ := H
            replace H : (if t129 = 2 then ((date_Print.f k t126).bind fun t130 => (some (t130.toList == ([50, 48, 50, 49, 45, 48, 49, 45, 48, 51] : List UInt8)))) else (some false)) = some r := H
            have A11 := Aside0.mk A110
            clear A110
            by_cases c12 : t129 = 2
            · rw [if_pos c12] at H
              have c12b0 : (t129 == 2) = true := beq_iff_eq.mpr c12
              have c12b1 : (t129 != 2) = false := bne_eq_false_iff_eq.mpr c12
              clear c12
              replace H := Option.bind_eq_some_iff.mp H
              obtain ⟨t130, A130, H⟩ := H
              replace H : (some (t130.toList == ([50, 48, 50, 49, 45, 48, 49, 45, 48, 51] : List UInt8))) = some r := H
              have A13 := Aside0.mk A130
              clear A130
              obtain rfl := Option.some.inj H
              go_enter Try.func14, Try.ntmps14
              go_wp2_with (first | ((with_reducible refine gate_callee (f := 9) rfl ?_); refine goesL_ (some 8) rfl rfl Try.func9 (by kernel_rfl) rfl #[.int .i64 1900, .int .i64 1, .int .i64 1] rfl (by (try simp only [List.map_toArray, List.map_cons, List.map_nil]); first | done | rfl | (simp only [List.length_drop, List.length_take]; rfl)) ?_; (with_reducible refine (date_Day.calls k 1900 1 1 t122 true _ A1.out).mono ?_); rintro e w' ⟨rfl, ⟨nd, rfl⟩⟩; refine ⟨_, rfl, ?_⟩) | ((with_reducible refine gate_callee (f := 9) rfl ?_); refine goesL_ (some 12) rfl rfl Try.func9 (by kernel_rfl) rfl #[.int .i64 1900, .int .i64 2, .int .i64 29] rfl (by (try simp only [List.map_toArray, List.map_cons, List.map_nil]); first | done | rfl | (simp only [List.length_drop, List.length_take]; rfl)) ?_; (with_reducible refine (date_Day.calls k 1900 2 29 t124 false _ A2.out).mono ?_); rintro e w' ⟨rfl, ⟨nd, rfl⟩⟩; refine ⟨_, rfl, ?_⟩) | ((with_reducible refine gate_callee (f := 10) rfl ?_); refine goesL_ (some 16) rfl rfl Try.func10 (by kernel_rfl) rfl #[.string (⟨#[50, 48, 50, 49, 45, 48, 49, 45, 48, 51]⟩ : ByteArray)] rfl (by (try simp only [List.map_toArray, List.map_cons, List.map_nil]); first | done | rfl | (simp only [List.length_drop, List.length_take]; rfl)) ?_; (with_reducible refine (date_Parse.calls k (⟨#[50, 48, 50, 49, 45, 48, 49, 45, 48, 51]⟩ : ByteArray) t126 true _ A3.out).mono ?_); rintro e w14 ⟨rfl, hb⟩; refine ⟨_, rfl, ?_⟩; have n0_ := Aside0.mk (below_step (by repeat (first | (with_reducible first | exact HB.out | apply below_alloc | apply pw_below_drewN | apply below_drew1) | exact HB.out)) hb); clear HB; have HB := n0_; clear n0_; (try clear hb); (try clear hb2); (try clear hk); (try clear hi)) | (go_at_call 15; (with_reducible refine (date_Week.calls k t126 t128 _ A9.out).mono ?_); rintro e w' ⟨rfl, ⟨nd, rfl⟩⟩) | (go_at_call 13; (with_reducible refine (date_Weekday.calls 1 t129 _ A11.out).mono ?_); rintro e w' ⟨rfl, ⟨nd, rfl⟩⟩) | (go_at_call 11; (with_reducible refine (date_Print.calls k t126 t130 _ A13.out).mono ?_); rintro e w15 ⟨rfl, hb⟩; have n0_ := Aside0.mk (below_step (by repeat (first | (with_reducible first | exact HB.out | apply below_alloc | apply pw_below_drewN | apply below_drew1) | exact HB.out)) hb); clear HB; have HB := n0_; clear n0_; (try clear hb); (try clear hb2); (try clear hk); (try clear hi)))
              go_ret
              exact ⟨by first | rfl | (simp [errW_none, errW_some] <;> rfl) | (simp [*, errW_none, errW_some] <;> rfl), by repeat (first | (with_reducible first | exact HB.out | apply below_alloc | apply pw_below_drewN | apply below_drew1) | exact HB.out)⟩
            · rw [if_neg c12] at H
              have c12b0 : (t129 == 2) = false := beq_eq_false_iff_ne.mpr c12
              have c12b1 : (t129 != 2) = true := bne_iff_ne.mpr c12
              obtain rfl := Option.some.inj H
              go_enter Try.func14, Try.ntmps14
              go_wp2_with (first | ((with_reducible refine gate_callee (f := 9) rfl ?_); refine goesL_ (some 8) rfl rfl Try.func9 (by kernel_rfl) rfl #[.int .i64 1900, .int .i64 1, .int .i64 1] rfl (by (try simp only [List.map_toArray, List.map_cons, List.map_nil]); first | done | rfl | (simp only [List.length_drop, List.length_take]; rfl)) ?_; (with_reducible refine (date_Day.calls k 1900 1 1 t122 true _ A1.out).mono ?_); rintro e w' ⟨rfl, ⟨nd, rfl⟩⟩; refine ⟨_, rfl, ?_⟩) | ((with_reducible refine gate_callee (f := 9) rfl ?_); refine goesL_ (some 12) rfl rfl Try.func9 (by kernel_rfl) rfl #[.int .i64 1900, .int .i64 2, .int .i64 29] rfl (by (try simp only [List.map_toArray, List.map_cons, List.map_nil]); first | done | rfl | (simp only [List.length_drop, List.length_take]; rfl)) ?_; (with_reducible refine (date_Day.calls k 1900 2 29 t124 false _ A2.out).mono ?_); rintro e w' ⟨rfl, ⟨nd, rfl⟩⟩; refine ⟨_, rfl, ?_⟩) | ((with_reducible refine gate_callee (f := 10) rfl ?_); refine goesL_ (some 16) rfl rfl Try.func10 (by kernel_rfl) rfl #[.string (⟨#[50, 48, 50, 49, 45, 48, 49, 45, 48, 51]⟩ : ByteArray)] rfl (by (try simp only [List.map_toArray, List.map_cons, List.map_nil]); first | done | rfl | (simp only [List.length_drop, List.length_take]; rfl)) ?_; (with_reducible refine (date_Parse.calls k (⟨#[50, 48, 50, 49, 45, 48, 49, 45, 48, 51]⟩ : ByteArray) t126 true _ A3.out).mono ?_); rintro e w16 ⟨rfl, hb⟩; refine ⟨_, rfl, ?_⟩; have n0_ := Aside0.mk (below_step (by repeat (first | (with_reducible first | exact HB.out | apply below_alloc | apply pw_below_drewN | apply below_drew1) | exact HB.out)) hb); clear HB; have HB := n0_; clear n0_; (try clear hb); (try clear hb2); (try clear hk); (try clear hi)) | (go_at_call 15; (with_reducible refine (date_Week.calls k t126 t128 _ A9.out).mono ?_); rintro e w' ⟨rfl, ⟨nd, rfl⟩⟩) | (go_at_call 13; (with_reducible refine (date_Weekday.calls 1 t129 _ A11.out).mono ?_); rintro e w' ⟨rfl, ⟨nd, rfl⟩⟩))
              go_ret
              exact ⟨by first | rfl | (simp [errW_none, errW_some] <;> rfl) | (simp [*, errW_none, errW_some] <;> rfl), by repeat (first | (with_reducible first | exact HB.out | apply below_alloc | apply pw_below_drewN | apply below_drew1) | exact HB.out)⟩
          · rw [if_neg c10] at H
            have c10b0 : (t128 == 53) = false := beq_eq_false_iff_ne.mpr c10
            have c10b1 : (t128 != 53) = true := bne_iff_ne.mpr c10
            obtain rfl := Option.some.inj H
            go_enter Try.func14, Try.ntmps14
            go_wp2_with (first | ((with_reducible refine gate_callee (f := 9) rfl ?_); refine goesL_ (some 8) rfl rfl Try.func9 (by kernel_rfl) rfl #[.int .i64 1900, .int .i64 1, .int .i64 1] rfl (by (try simp only [List.map_toArray, List.map_cons, List.map_nil]); first | done | rfl | (simp only [List.length_drop, List.length_take]; rfl)) ?_; (with_reducible refine (date_Day.calls k 1900 1 1 t122 true _ A1.out).mono ?_); rintro e w' ⟨rfl, ⟨nd, rfl⟩⟩; refine ⟨_, rfl, ?_⟩) | ((with_reducible refine gate_callee (f := 9) rfl ?_); refine goesL_ (some 12) rfl rfl Try.func9 (by kernel_rfl) rfl #[.int .i64 1900, .int .i64 2, .int .i64 29] rfl (by (try simp only [List.map_toArray, List.map_cons, List.map_nil]); first | done | rfl | (simp only [List.length_drop, List.length_take]; rfl)) ?_; (with_reducible refine (date_Day.calls k 1900 2 29 t124 false _ A2.out).mono ?_); rintro e w' ⟨rfl, ⟨nd, rfl⟩⟩; refine ⟨_, rfl, ?_⟩) | ((with_reducible refine gate_callee (f := 10) rfl ?_); refine goesL_ (some 16) rfl rfl Try.func10 (by kernel_rfl) rfl #[.string (⟨#[50, 48, 50, 49, 45, 48, 49, 45, 48, 51]⟩ : ByteArray)] rfl (by (try simp only [List.map_toArray, List.map_cons, List.map_nil]); first | done | rfl | (simp only [List.length_drop, List.length_take]; rfl)) ?_; (with_reducible refine (date_Parse.calls k (⟨#[50, 48, 50, 49, 45, 48, 49, 45, 48, 51]⟩ : ByteArray) t126 true _ A3.out).mono ?_); rintro e w17 ⟨rfl, hb⟩; refine ⟨_, rfl, ?_⟩; have n0_ := Aside0.mk (below_step (by repeat (first | (with_reducible first | exact HB.out | apply below_alloc | apply pw_below_drewN | apply below_drew1) | exact HB.out)) hb); clear HB; have HB := n0_; clear n0_; (try clear hb); (try clear hb2); (try clear hk); (try clear hi)) | (go_at_call 15; (with_reducible refine (date_Week.calls k t126 t128 _ A9.out).mono ?_); rintro e w' ⟨rfl, ⟨nd, rfl⟩⟩))
            go_ret
            exact ⟨by first | rfl | (simp [errW_none, errW_some] <;> rfl) | (simp [*, errW_none, errW_some] <;> rfl), by repeat (first | (with_reducible first | exact HB.out | apply below_alloc | apply pw_below_drewN | apply below_drew1) | exact HB.out)⟩
        · replace c8 := Bool.eq_false_iff.mpr c8
          subst c8
          have H1 : (some false) = some r := by rw [if_neg (show ¬ (false = true) by decide)] at H; exact H
          clear H
          have H := H1
          clear H1
          obtain rfl := Option.some.inj H
          go_enter Try.func14, Try.ntmps14
          go_wp2_with (first | ((with_reducible refine gate_callee (f := 9) rfl ?_); refine goesL_ (some 8) rfl rfl Try.func9 (by kernel_rfl) rfl #[.int .i64 1900, .int .i64 1, .int .i64 1] rfl (by (try simp only [List.map_toArray, List.map_cons, List.map_nil]); first | done | rfl | (simp only [List.length_drop, List.length_take]; rfl)) ?_; (with_reducible refine (date_Day.calls k 1900 1 1 t122 true _ A1.out).mono ?_); rintro e w' ⟨rfl, ⟨nd, rfl⟩⟩; refine ⟨_, rfl, ?_⟩) | ((with_reducible refine gate_callee (f := 9) rfl ?_); refine goesL_ (some 12) rfl rfl Try.func9 (by kernel_rfl) rfl #[.int .i64 1900, .int .i64 2, .int .i64 29] rfl (by (try simp only [List.map_toArray, List.map_cons, List.map_nil]); first | done | rfl | (simp only [List.length_drop, List.length_take]; rfl)) ?_; (with_reducible refine (date_Day.calls k 1900 2 29 t124 false _ A2.out).mono ?_); rintro e w' ⟨rfl, ⟨nd, rfl⟩⟩; refine ⟨_, rfl, ?_⟩) | ((with_reducible refine gate_callee (f := 10) rfl ?_); refine goesL_ (some 16) rfl rfl Try.func10 (by kernel_rfl) rfl #[.string (⟨#[50, 48, 50, 49, 45, 48, 49, 45, 48, 51]⟩ : ByteArray)] rfl (by (try simp only [List.map_toArray, List.map_cons, List.map_nil]); first | done | rfl | (simp only [List.length_drop, List.length_take]; rfl)) ?_; (with_reducible refine (date_Parse.calls k (⟨#[50, 48, 50, 49, 45, 48, 49, 45, 48, 51]⟩ : ByteArray) t126 false _ A3.out).mono ?_); rintro e w18 ⟨rfl, hb⟩; refine ⟨_, rfl, ?_⟩; have n0_ := Aside0.mk (below_step (by repeat (first | (with_reducible first | exact HB.out | apply below_alloc | apply pw_below_drewN | apply below_drew1) | exact HB.out)) hb); clear HB; have HB := n0_; clear n0_; (try clear hb); (try clear hb2); (try clear hk); (try clear hi)))
          go_ret
          exact ⟨by first | rfl | (simp [errW_none, errW_some] <;> rfl) | (simp [*, errW_none, errW_some] <;> rfl), by repeat (first | (with_reducible first | exact HB.out | apply below_alloc | apply pw_below_drewN | apply below_drew1) | exact HB.out)⟩
    · replace c5 := Bool.eq_false_iff.mpr c5
      subst c5
      have H1 : (some false) = some r := by rw [if_neg (show ¬ (false = true) by decide)] at H; exact H
      clear H
      have H := H1
      clear H1
      obtain rfl := Option.some.inj H
      go_enter Try.func14, Try.ntmps14
      go_wp2_with (first | ((with_reducible refine gate_callee (f := 9) rfl ?_); refine goesL_ (some 8) rfl rfl Try.func9 (by kernel_rfl) rfl #[.int .i64 1900, .int .i64 1, .int .i64 1] rfl (by (try simp only [List.map_toArray, List.map_cons, List.map_nil]); first | done | rfl | (simp only [List.length_drop, List.length_take]; rfl)) ?_; (with_reducible refine (date_Day.calls k 1900 1 1 t122 false _ A1.out).mono ?_); rintro e w' ⟨rfl, ⟨nd, rfl⟩⟩; refine ⟨_, rfl, ?_⟩) | ((with_reducible refine gate_callee (f := 9) rfl ?_); refine goesL_ (some 12) rfl rfl Try.func9 (by kernel_rfl) rfl #[.int .i64 1900, .int .i64 2, .int .i64 29] rfl (by (try simp only [List.map_toArray, List.map_cons, List.map_nil]); first | done | rfl | (simp only [List.length_drop, List.length_take]; rfl)) ?_; (with_reducible refine (date_Day.calls k 1900 2 29 t124 t125 _ A2.out).mono ?_); rintro e w' ⟨rfl, ⟨nd, rfl⟩⟩; refine ⟨_, rfl, ?_⟩) | ((with_reducible refine gate_callee (f := 10) rfl ?_); refine goesL_ (some 16) rfl rfl Try.func10 (by kernel_rfl) rfl #[.string (⟨#[50, 48, 50, 49, 45, 48, 49, 45, 48, 51]⟩ : ByteArray)] rfl (by (try simp only [List.map_toArray, List.map_cons, List.map_nil]); first | done | rfl | (simp only [List.length_drop, List.length_take]; rfl)) ?_; (with_reducible refine (date_Parse.calls k (⟨#[50, 48, 50, 49, 45, 48, 49, 45, 48, 51]⟩ : ByteArray) t126 t127 _ A3.out).mono ?_); rintro e w19 ⟨rfl, hb⟩; refine ⟨_, rfl, ?_⟩; have n0_ := Aside0.mk (below_step (by repeat (first | (with_reducible first | exact HB.out | apply below_alloc | apply pw_below_drewN | apply below_drew1) | exact HB.out)) hb); clear HB; have HB := n0_; clear n0_; (try clear hb); (try clear hb2); (try clear hk); (try clear hi)))
      go_ret
      exact ⟨by first | rfl | (simp [errW_none, errW_some] <;> rfl) | (simp [*, errW_none, errW_some] <;> rfl), by repeat (first | (with_reducible first | exact HB.out | apply below_alloc | apply pw_below_drewN | apply below_drew1) | exact HB.out)⟩
  · rw [if_neg c4] at H
    have c4b0 : (t122 == 1) = false := beq_eq_false_iff_ne.mpr c4
    have c4b1 : (t122 != 1) = true := bne_iff_ne.mpr c4
    obtain rfl := Option.some.inj H
    go_enter Try.func14, Try.ntmps14
    go_wp2_with (first | ((with_reducible refine gate_callee (f := 9) rfl ?_); refine goesL_ (some 8) rfl rfl Try.func9 (by kernel_rfl) rfl #[.int .i64 1900, .int .i64 1, .int .i64 1] rfl (by (try simp only [List.map_toArray, List.map_cons, List.map_nil]); first | done | rfl | (simp only [List.length_drop, List.length_take]; rfl)) ?_; (with_reducible refine (date_Day.calls k 1900 1 1 t122 t123 _ A1.out).mono ?_); rintro e w' ⟨rfl, ⟨nd, rfl⟩⟩; refine ⟨_, rfl, ?_⟩) | ((with_reducible refine gate_callee (f := 9) rfl ?_); refine goesL_ (some 12) rfl rfl Try.func9 (by kernel_rfl) rfl #[.int .i64 1900, .int .i64 2, .int .i64 29] rfl (by (try simp only [List.map_toArray, List.map_cons, List.map_nil]); first | done | rfl | (simp only [List.length_drop, List.length_take]; rfl)) ?_; (with_reducible refine (date_Day.calls k 1900 2 29 t124 t125 _ A2.out).mono ?_); rintro e w' ⟨rfl, ⟨nd, rfl⟩⟩; refine ⟨_, rfl, ?_⟩) | ((with_reducible refine gate_callee (f := 10) rfl ?_); refine goesL_ (some 16) rfl rfl Try.func10 (by kernel_rfl) rfl #[.string (⟨#[50, 48, 50, 49, 45, 48, 49, 45, 48, 51]⟩ : ByteArray)] rfl (by (try simp only [List.map_toArray, List.map_cons, List.map_nil]); first | done | rfl | (simp only [List.length_drop, List.length_take]; rfl)) ?_; (with_reducible refine (date_Parse.calls k (⟨#[50, 48, 50, 49, 45, 48, 49, 45, 48, 51]⟩ : ByteArray) t126 t127 _ A3.out).mono ?_); rintro e w20 ⟨rfl, hb⟩; refine ⟨_, rfl, ?_⟩; have n0_ := Aside0.mk (below_step (by repeat (first | (with_reducible first | exact HB.out | apply below_alloc | apply pw_below_drewN | apply below_drew1) | exact HB.out)) hb); clear HB; have HB := n0_; clear n0_; (try clear hb); (try clear hb2); (try clear hk); (try clear hi)))
    go_ret
    exact ⟨by first | rfl | (simp [errW_none, errW_some] <;> rfl) | (simp [*, errW_none, errW_some] <;> rfl), by repeat (first | (with_reducible first | exact HB.out | apply below_alloc | apply pw_below_drewN | apply below_drew1) | exact HB.out)⟩

end Go.Proofs.Ytemelfcpmbcnaaa.P
