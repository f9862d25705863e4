-- Written by a program of this session (wip/tools/xprint.py), out of the seat's translation. Not trusted: Lean checks it.
import Derived.Test.YtllceoncpgebpaaGreatDoorPx0
import Derived.Test.YtllceoncpgebpaaGreatDoorPx1
import Derived.Test.YtllceoncpgebpaaGreatDoorPx2
namespace Go.Proofs.YtllceoncpgebpaaGreatDoor.P
open Go.RowKit Go.Proofs.YtllceoncpgebpaaGreatDoorW.PrintWords Go.Proofs.YtllceoncpgebpaaGreatDoorW.PrintLast Go.Proofs.YtllceoncpgebpaaGreatDoorW.PrintMore
attribute [local go_sem] max2_int min2_int max_two min_two max_three min_three max_four min_four X.binOp_str_gtr X.binOp_str_leq
set_option linter.unusedVariables false
set_option linter.unusedSimpArgs false
def date_Print.l1 : Nat → List Int → Int → Int → Option (List Int)
 | 0, _, _, _ => none
 | k + 1, l, i, n => if n > 0 then (if 0 ≤ i then (if i < 10 then (date_Print.l1 k (l.set i.toNat (48 + n % 10)) (i - 1) (wrap64 (Int.tdiv n 10))) else none) else none) else (some l)
def date_Print.f (k : Nat) (a0 : Int) : Option (ByteArray) := (date_Parts.f k a0).bind fun t => (if t.2.2.2 = true then ((date_Print.l1 k ([48, 48, 48, 48, 45, 48, 48, 45, 48, 48] : List Int) 3 t.1).bind fun l1 => ((date_Print.l1 k l1 6 t.2.1).bind fun l2 => ((date_Print.l1 k l2 9 t.2.2.1).bind fun l3 => some (strOfNums l3)))) else (some (⟨#[]⟩ : ByteArray)))
theorem date_Print.mono_l : ∀ k, (∀ y0 y1 y2, LeO (date_Print.l1 k y0 y1 y2) (date_Print.l1 (k + 1) y0 y1 y2))
 | 0 => fun _ _ _ r h => by simp [date_Print.l1] at h
 | k + 1 => by
  have ih0 := date_Print.mono_l k
  ·intro y0 y1 y2
   unfold date_Print.l1
   repeat' first
   | (with_reducible exact ih0 _ _ _)
   | (with_reducible exact LeO.refl _)
   | (with_reducible exact LeO.none _)
   | (with_reducible refine LeO.ite ?_ ?_)
theorem date_Print.mono : ∀ a0 k, LeO (date_Print.f k a0) (date_Print.f (k + 1) a0) := by
 intro a0 k
 have ih0 := date_Print.mono_l k
 unfold date_Print.f
 repeat' first
   | (with_reducible exact ih0 _ _ _)
   | (with_reducible exact date_Parts.mono _ _)
   | (with_reducible exact LeO.refl _)
   | (with_reducible exact LeO.none _)
   | (with_reducible refine LeO.ite ?_ ?_)
   | (with_reducible refine LeO.bind ?_ (fun _ => ?_))
set_option maxHeartbeats 8000000 in
set_option maxRecDepth 100000 in
theorem date_Print.calls (k : Nat) (a0 : Int) (r : ByteArray) (w : World) (h : date_Print.f k a0 = some r) :
  Calls Tryz.prog 105 #[.int .i64 a0] w fun e w' => e = .returned (.string r) ∧ Below w.heap.size w w' := by
 unfold date_Print.f at h
 obtain ⟨⟨y, m, d, ok⟩, A10, H⟩ := Option.bind_eq_some_iff.mp h
 have A1 := Aside0.mk A10
 clear A10 h
 cases ok with
 | false =>
  simp only [Bool.false_eq_true, if_false, Option.some.injEq] at H
  subst H
  go_enter Tryz.func105, Tryz.ntmps105
  go_wp2_with (go_at_call 121; refine (date_Parts.calls k a0 y m d false _ A1.out).mono ?_; rintro e w1 ⟨rfl, nd, rfl⟩)
  go_ret
  exact ⟨rfl, by apply pw_below_drewN; exact Below.refl _ _⟩
 | true =>
  simp only [if_true] at H
  obtain ⟨l1, h1, H⟩ := Option.bind_eq_some_iff.mp H
  obtain ⟨l2, h2, H⟩ := Option.bind_eq_some_iff.mp H
  obtain ⟨l3, h3, H⟩ := Option.bind_eq_some_iff.mp H
  have H1 := Aside0.mk h1
  have H2 := Aside0.mk h2
  have H3 := Aside0.mk h3
  obtain rfl := Option.some.inj H
  clear h1 h2 h3 H
  have kc : ∀ n : Nat, (convert 109 109 (Value.slice (some ⟨w.heap.size, 0, none⟩) 10 10)).run Tryz.prog ((w.drewN n).alloc (.cells #[.int .u8 48, .int .u8 48, .int .u8 48, .int .u8 48, .int .u8 45, .int .u8 48, .int .u8 48, .int .u8 45, .int .u8 48, .int .u8 48] 5)) = .ok (Value.slice (some ⟨w.heap.size, 0, none⟩) 10 10) ((w.drewN n).alloc (.cells #[.int .u8 48, .int .u8 48, .int .u8 48, .int .u8 48, .int .u8 45, .int .u8 48, .int .u8 48, .int .u8 45, .int .u8 48, .int .u8 48] 5 (10, 11))) := fun n => Lib.run_convert_bytes_const (P := Tryz.prog) (w.drewN n) 109 5 _ 10 10 Tryz.underlying109 Tryz.underlying5
  have x0 : ∀ w : World, (Instr.index 78 (.agg #[.int .i64 3, .int .i64 6, .int .i64 9]) (.int .i64 0)).run Tryz.prog w = .ok (.int .i64 3) w := fun _ => by kernel_rfl
  have x1 : ∀ w : World, (Instr.index 78 (.agg #[.int .i64 3, .int .i64 6, .int .i64 9]) (.int .i64 1)).run Tryz.prog w = .ok (.int .i64 6) w := fun _ => by kernel_rfl
  have x2 : ∀ w : World, (Instr.index 78 (.agg #[.int .i64 3, .int .i64 6, .int .i64 9]) (.int .i64 2)).run Tryz.prog w = .ok (.int .i64 9) w := fun _ => by kernel_rfl
  have y0 : ∀ w : World, (Instr.index 78 (.agg #[.int .i64 y, .int .i64 m, .int .i64 d]) (.int .i64 0)).run Tryz.prog w = .ok (.int .i64 y) w := fun _ => by kernel_rfl
  have y1 : ∀ w : World, (Instr.index 78 (.agg #[.int .i64 y, .int .i64 m, .int .i64 d]) (.int .i64 1)).run Tryz.prog w = .ok (.int .i64 m) w := fun _ => by kernel_rfl
  have y2 : ∀ w : World, (Instr.index 78 (.agg #[.int .i64 y, .int .i64 m, .int .i64 d]) (.int .i64 2)).run Tryz.prog w = .ok (.int .i64 d) w := fun _ => by kernel_rfl
  go_enter Tryz.func105, Tryz.ntmps105
  go_wp2_with (go_at_call 121; refine (date_Parts.calls k a0 y m d true _ A1.out).mono ?_; rintro e w1 ⟨rfl, nd, rfl⟩)
  go_loopg [23] 3 (fun g v23 w' => ∃ (j : Int) (L : List Int), v23 = .int .i64 j ∧ Aside0 ((g : Int) + j = 3) ∧ Aside0 ((j = 0 ∧ L = [48, 48, 48, 48, 45, 48, 48, 45, 48, 48]) ∨ (j = 1 ∧ L = l1) ∨ (j = 2 ∧ L = l2) ∨ (j = 3 ∧ L = l3)) ∧ Aside0 (L.length = 10) ∧ Aside0 (X.BlkM w' w.heap.size 5 (10, 11) (L.map (Value.int .u8)).toArray) ∧ Aside0 (Below w.heap.size w w'))
  case atStart => exact ⟨0, _, rfl, ⟨rfl⟩, ⟨.inl ⟨rfl, rfl⟩⟩, ⟨rfl⟩, ⟨X.BlkM.new _ _ _ _⟩, ⟨by apply below_alloc; apply pw_below_drewN; exact Below.refl _ _⟩⟩
  case round =>
   clear kc
   obtain ⟨j, L, rfl, HG, HJ, HL, HC, HB⟩ := hrel
   rcases HJ.out with ⟨rfl, rfl⟩ | ⟨rfl, rfl⟩ | ⟨rfl, rfl⟩ | ⟨rfl, rfl⟩
   ·clear HJ
    have HGo := HG
    go_wp2
    go_loopg [9, 10] k (fun kq v9 v10 w' => ∃ (i n : Int) (M : List Int), v9 = .int .i64 i ∧ v10 = .int .i64 n ∧ Aside0 (date_Print.l1 kq M i n = some l1) ∧ Aside0 (kq ≤ k) ∧ Aside0 (M.length = 10) ∧ Aside0 (X.BlkM w' w.heap.size 5 (10, 11) (M.map (Value.int .u8)).toArray) ∧ Aside0 (Below w.heap.size w w'))
    case atStart => exact ⟨_, _, _, rfl, rfl, H1, ⟨Nat.le_refl _⟩, HL, HC, HB⟩
    case round =>
     clear HL HC HB
     obtain ⟨i, n, M, rfl, rfl, HA, HK, HL, HC, HB⟩ := hrel
     cases gk with
     | zero => exact absurd HA.out (by simp [date_Print.l1])
     | succ k1 =>
      have H := HA.out
      clear HA
      simp only [date_Print.l1] at H
      by_cases c1 : n > 0
      ·rw [if_pos c1] at H
       have c1b0 : decide (0 < n) = true := decide_eq_true c1
       by_cases c2 : 0 ≤ i
       ·rw [if_pos c2] at H
        by_cases c3 : i < 10
        ·rw [if_pos c3] at H
         have H' := Aside0.mk H
         clear H
         have hlt : i.toNat < M.length := by rw [HL.out]; omega
         have hcc := HC.out.cell i.toNat
         have hff := HC.out.frozen i.toNat (by show i.toNat < 10; omega)
         have hcv : (M.map (Value.int .u8)).toArray[i.toNat]? = some (.int .u8 (rd M i)) := by simp [rd, hlt]
         rw [hcv] at hcc
         clear hcv hlt
         have HS := Aside0.mk (show ∀ u : Int, ((M.map (Value.int .u8)).toArray).setIfInBounds i.toNat (.int .u8 u) = ((M.set i.toNat u).map (Value.int .u8)).toArray from fun u => by simp [List.map_set])
         go_wp2
         go_roundg k1
         case measure => omega
         case rel => exact ⟨_, _, _, rfl, rfl, H', ⟨by have := HK.out; omega⟩, ⟨by rw [List.length_set]; exact HL.out⟩, ⟨HS.out (48 + n % 10) ▸ HC.out.set_ i.toNat _⟩, ⟨HB.out.setCell (Nat.le_refl _) _⟩⟩
        ·rw [if_neg c3] at H
         exact absurd H (by simp)
       ·rw [if_neg c2] at H
        exact absurd H (by simp)
      ·rw [if_neg c1] at H
       have c1b0 : decide (0 < n) = false := decide_eq_false c1
       obtain rfl := Option.some.inj H
       go_wp2
       go_roundg 2
       case measure => have := HGo.out; omega
       case rel => exact ⟨_, _, rfl, ⟨rfl⟩, ⟨.inr (.inl ⟨rfl, rfl⟩)⟩, HL, HC, HB⟩
   ·clear HJ
    have HGo := HG
    go_wp2
    go_loopg [9, 10] k (fun kq v9 v10 w' => ∃ (i n : Int) (M : List Int), v9 = .int .i64 i ∧ v10 = .int .i64 n ∧ Aside0 (date_Print.l1 kq M i n = some l2) ∧ Aside0 (kq ≤ k) ∧ Aside0 (M.length = 10) ∧ Aside0 (X.BlkM w' w.heap.size 5 (10, 11) (M.map (Value.int .u8)).toArray) ∧ Aside0 (Below w.heap.size w w'))
    case atStart => exact ⟨_, _, _, rfl, rfl, H2, ⟨Nat.le_refl _⟩, HL, HC, HB⟩
    case round =>
     clear HL HC HB
     obtain ⟨i, n, M, rfl, rfl, HA, HK, HL, HC, HB⟩ := hrel
     cases gk with
     | zero => exact absurd HA.out (by simp [date_Print.l1])
     | succ k1 =>
      have H := HA.out
      clear HA
      simp only [date_Print.l1] at H
      by_cases c1 : n > 0
      ·rw [if_pos c1] at H
       have c1b0 : decide (0 < n) = true := decide_eq_true c1
       by_cases c2 : 0 ≤ i
       ·rw [if_pos c2] at H
        by_cases c3 : i < 10
        ·rw [if_pos c3] at H
         have H' := Aside0.mk H
         clear H
         have hlt : i.toNat < M.length := by rw [HL.out]; omega
         have hcc := HC.out.cell i.toNat
         have hff := HC.out.frozen i.toNat (by show i.toNat < 10; omega)
         have hcv : (M.map (Value.int .u8)).toArray[i.toNat]? = some (.int .u8 (rd M i)) := by simp [rd, hlt]
         rw [hcv] at hcc
         clear hcv hlt
         have HS := Aside0.mk (show ∀ u : Int, ((M.map (Value.int .u8)).toArray).setIfInBounds i.toNat (.int .u8 u) = ((M.set i.toNat u).map (Value.int .u8)).toArray from fun u => by simp [List.map_set])
         go_wp2
         go_roundg k1
         case measure => omega
         case rel => exact ⟨_, _, _, rfl, rfl, H', ⟨by have := HK.out; omega⟩, ⟨by rw [List.length_set]; exact HL.out⟩, ⟨HS.out (48 + n % 10) ▸ HC.out.set_ i.toNat _⟩, ⟨HB.out.setCell (Nat.le_refl _) _⟩⟩
        ·rw [if_neg c3] at H
         exact absurd H (by simp)
       ·rw [if_neg c2] at H
        exact absurd H (by simp)
      ·rw [if_neg c1] at H
       have c1b0 : decide (0 < n) = false := decide_eq_false c1
       obtain rfl := Option.some.inj H
       go_wp2
       go_roundg 1
       case measure => have := HGo.out; omega
       case rel => exact ⟨_, _, rfl, ⟨rfl⟩, ⟨.inr (.inr (.inl ⟨rfl, rfl⟩))⟩, HL, HC, HB⟩
   ·clear HJ
    have HGo := HG
    go_wp2
    go_loopg [9, 10] k (fun kq v9 v10 w' => ∃ (i n : Int) (M : List Int), v9 = .int .i64 i ∧ v10 = .int .i64 n ∧ Aside0 (date_Print.l1 kq M i n = some l3) ∧ Aside0 (kq ≤ k) ∧ Aside0 (M.length = 10) ∧ Aside0 (X.BlkM w' w.heap.size 5 (10, 11) (M.map (Value.int .u8)).toArray) ∧ Aside0 (Below w.heap.size w w'))
    case atStart => exact ⟨_, _, _, rfl, rfl, H3, ⟨Nat.le_refl _⟩, HL, HC, HB⟩
    case round =>
     clear HL HC HB
     obtain ⟨i, n, M, rfl, rfl, HA, HK, HL, HC, HB⟩ := hrel
     cases gk with
     | zero => exact absurd HA.out (by simp [date_Print.l1])
     | succ k1 =>
      have H := HA.out
      clear HA
      simp only [date_Print.l1] at H
      by_cases c1 : n > 0
      ·rw [if_pos c1] at H
       have c1b0 : decide (0 < n) = true := decide_eq_true c1
       by_cases c2 : 0 ≤ i
       ·rw [if_pos c2] at H
        by_cases c3 : i < 10
        ·rw [if_pos c3] at H
         have H' := Aside0.mk H
         clear H
         have hlt : i.toNat < M.length := by rw [HL.out]; omega
         have hcc := HC.out.cell i.toNat
         have hff := HC.out.frozen i.toNat (by show i.toNat < 10; omega)
         have hcv : (M.map (Value.int .u8)).toArray[i.toNat]? = some (.int .u8 (rd M i)) := by simp [rd, hlt]
         rw [hcv] at hcc
         clear hcv hlt
         have HS := Aside0.mk (show ∀ u : Int, ((M.map (Value.int .u8)).toArray).setIfInBounds i.toNat (.int .u8 u) = ((M.set i.toNat u).map (Value.int .u8)).toArray from fun u => by simp [List.map_set])
         go_wp2
         go_roundg k1
         case measure => omega
         case rel => exact ⟨_, _, _, rfl, rfl, H', ⟨by have := HK.out; omega⟩, ⟨by rw [List.length_set]; exact HL.out⟩, ⟨HS.out (48 + n % 10) ▸ HC.out.set_ i.toNat _⟩, ⟨HB.out.setCell (Nat.le_refl _) _⟩⟩
        ·rw [if_neg c3] at H
         exact absurd H (by simp)
       ·rw [if_neg c2] at H
        exact absurd H (by simp)
      ·rw [if_neg c1] at H
       have c1b0 : decide (0 < n) = false := decide_eq_false c1
       obtain rfl := Option.some.inj H
       go_wp2
       go_roundg 0
       case measure => have := HGo.out; omega
       case rel => exact ⟨_, _, rfl, ⟨rfl⟩, ⟨.inr (.inr (.inr ⟨rfl, rfl⟩))⟩, HL, HC, HB⟩
   ·clear HJ
    have hcv := run_convert_bytes_arg wr 109 5 Tryz.underlying109 Tryz.underlying5 w.heap.size 0 10 10 L HL.out (fun i hi => by
     have hlt : i < L.length := by rw [HL.out]; omega
     rw [Nat.zero_add, HC.out.cell i]
     simp [hlt]) 9 Tryz.underlying9
    go_wp2
    go_ret
    exact ⟨rfl, HB.out⟩
def date_Week.f (k : Nat) (a0 : Int) : Option (Int) := (date_good.f a0).bind fun t133 => (if t133 = true then ((date_Parts.f k (wrap64 ((wrap64 (a0 - (Int.tmod (wrap64 (a0 - 1)) 7))) + 3))).bind fun bt134 => ((date_Day.f k bt134.1 1 1).bind fun bt138 => (some (wrap64 ((wrap64 (Int.tdiv (wrap64 ((wrap64 ((wrap64 (a0 - (Int.tmod (wrap64 (a0 - 1)) 7))) + 3)) - bt138.1)) 7)) + 1))))) else (some 0))
theorem date_Week.mono : ∀ a0 k, LeO (date_Week.f k a0) (date_Week.f (k + 1) a0) := by
 intro a0 k
 unfold date_Week.f
 repeat' first
   | (with_reducible exact date_Day.mono _ _ _ _)
   | (with_reducible exact date_Parts.mono _ _)
   | (with_reducible exact LeO.refl _)
   | (with_reducible exact LeO.none _)
   | (with_reducible refine LeO.ite ?_ ?_)
   | (with_reducible refine LeO.bind ?_ (fun _ => ?_))
   | exact date_Day.mono _ _ _ _
   | exact date_Parts.mono _ _
   | exact LeO.none _
   | refine LeO.ite ?_ ?_
   | refine LeO.bind ?_ (fun _ => ?_)
set_option maxHeartbeats 8000000 in
set_option maxRecDepth 100000 in
theorem date_Week.calls (k : Nat) (a0 : Int) (r : Int) (w : World) (h : date_Week.f k a0 = some r) :
  Calls Tryz.prog 102 #[.int .i64 a0] w fun e w' => e = .returned (.int .i64 r) ∧ Drawn0 w w' := by
 have H : ((date_good.f a0).bind fun t133 => (if t133 = true then ((date_Parts.f k (wrap64 ((wrap64 (a0 - (Int.tmod (wrap64 (a0 - 1)) 7))) + 3))).bind fun bt134 => ((date_Day.f k bt134.1 1 1).bind fun bt138 => (some (wrap64 ((wrap64 (Int.tdiv (wrap64 ((wrap64 ((wrap64 (a0 - (Int.tmod (wrap64 (a0 - 1)) 7))) + 3)) - bt138.1)) 7)) + 1))))) else (some 0))) = some r := h
 clear h
 replace H := Option.bind_eq_some_iff.mp H
 obtain ⟨t133, A20, H⟩ := H
 replace H : (if t133 = true then ((date_Parts.f k (wrap64 ((wrap64 (a0 - (Int.tmod (wrap64 (a0 - 1)) 7))) + 3))).bind fun bt134 => ((date_Day.f k bt134.1 1 1).bind fun bt138 => (some (wrap64 ((wrap64 (Int.tdiv (wrap64 ((wrap64 ((wrap64 (a0 - (Int.tmod (wrap64 (a0 - 1)) 7))) + 3)) - bt138.1)) 7)) + 1))))) else (some 0)) = some r := H
 have A2 := Aside0.mk A20
 clear A20
 by_cases c3 : t133 = true
 ·subst c3
  have H1 : ((date_Parts.f k (wrap64 ((wrap64 (a0 - (Int.tmod (wrap64 (a0 - 1)) 7))) + 3))).bind fun bt134 => ((date_Day.f k bt134.1 1 1).bind fun bt138 => (some (wrap64 ((wrap64 (Int.tdiv (wrap64 ((wrap64 ((wrap64 (a0 - (Int.tmod (wrap64 (a0 - 1)) 7))) + 3)) - bt138.1)) 7)) + 1))))) = some r := by rw [if_pos rfl] at H; exact H
  clear H
  have H := H1
  clear H1
  replace H := Option.bind_eq_some_iff.mp H
  obtain ⟨⟨t134, t135, t136, t137⟩, A40, H⟩ := H
  replace H : ((date_Day.f k t134 1 1).bind fun bt138 => (some (wrap64 ((wrap64 (Int.tdiv (wrap64 ((wrap64 ((wrap64 (a0 - (Int.tmod (wrap64 (a0 - 1)) 7))) + 3)) - bt138.1)) 7)) + 1)))) = some r := H
  have A4 := Aside0.mk A40
  clear A40
  replace H := Option.bind_eq_some_iff.mp H
  obtain ⟨⟨t138, t139⟩, A50, H⟩ := H
  replace H : (some (wrap64 ((wrap64 (Int.tdiv (wrap64 ((wrap64 ((wrap64 (a0 - (Int.tmod (wrap64 (a0 - 1)) 7))) + 3)) - t138)) 7)) + 1))) = some r := H
  have A5 := Aside0.mk A50
  clear A50
  obtain rfl := Option.some.inj H
  go_enter Tryz.func102, Tryz.ntmps102
  go_wp2_with (first | ((with_reducible refine gate_callee (f := 85) rfl ?_); refine goesL_ (some 11) rfl rfl Tryz.func85 (by kernel_rfl) rfl #[.int .i64 a0] rfl (by (try simp only [List.map_toArray, List.map_cons, List.map_nil]); first | done | rfl | (simp only [List.length_drop, List.length_take]; rfl)) ?_; (with_reducible refine (date_good.calls a0 true _ A2.out).mono ?_); rintro e w' ⟨rfl, ⟨nd, rfl⟩⟩; refine ⟨_, rfl, ?_⟩) | ((with_reducible refine gate_callee (f := 121) rfl ?_); refine goesL_ (some 21) rfl rfl Tryz.func121 (by kernel_rfl) rfl #[.int .i64 (wrap64 ((wrap64 (a0 - (Int.tmod (wrap64 (a0 - 1)) 7))) + 3))] rfl (by (try simp only [List.map_toArray, List.map_cons, List.map_nil]); first | done | rfl | (simp only [List.length_drop, List.length_take]; rfl)) ?_; (with_reducible refine (date_Parts.calls k (wrap64 ((wrap64 (a0 - (Int.tmod (wrap64 (a0 - 1)) 7))) + 3)) t134 t135 t136 t137 _ A4.out).mono ?_); rintro e w' ⟨rfl, ⟨nd, rfl⟩⟩; refine ⟨_, rfl, ?_⟩) | ((with_reducible refine gate_callee (f := 84) rfl ?_); refine goesL_ (some 28) rfl rfl Tryz.func84 (by kernel_rfl) rfl #[.int .i64 t134, .int .i64 1, .int .i64 1] rfl (by (try simp only [List.map_toArray, List.map_cons, List.map_nil]); first | done | rfl | (simp only [List.length_drop, List.length_take]; rfl)) ?_; (with_reducible refine (date_Day.calls k t134 1 1 t138 t139 _ A5.out).mono ?_); rintro e w' ⟨rfl, ⟨nd, rfl⟩⟩; refine ⟨_, rfl, ?_⟩))
  go_ret
  exact ⟨zrl, zdn⟩
 ·replace c3 := Bool.eq_false_iff.mpr c3
  subst c3
  have H1 : (some 0) = some r := by rw [if_neg (show ¬ (false = true) by decide)] at H; exact H
  clear H
  have H := H1
  clear H1
  obtain rfl := Option.some.inj H
  go_enter Tryz.func102, Tryz.ntmps102
  go_wp2_with (first | ((with_reducible refine gate_callee (f := 85) rfl ?_); refine goesL_ (some 11) rfl rfl Tryz.func85 (by kernel_rfl) rfl #[.int .i64 a0] rfl (by (try simp only [List.map_toArray, List.map_cons, List.map_nil]); first | done | rfl | (simp only [List.length_drop, List.length_take]; rfl)) ?_; (with_reducible refine (date_good.calls a0 false _ A2.out).mono ?_); rintro e w' ⟨rfl, ⟨nd, rfl⟩⟩; refine ⟨_, rfl, ?_⟩))
  go_ret
  exact ⟨zrl, zdn⟩
def date_Weekday.f (a0 : Int) : Option (Int) := (date_good.f a0).bind fun t140 => (if t140 = true then (some (wrap64 ((Int.tmod a0 7) + 1))) else (some 0))
set_option maxHeartbeats 8000000 in
set_option maxRecDepth 100000 in
theorem date_Weekday.calls (a0 : Int) (r : Int) (w : World) (h : date_Weekday.f a0 = some r) :
  Calls Tryz.prog 100 #[.int .i64 a0] w fun e w' => e = .returned (.int .i64 r) ∧ Drawn0 w w' := by
 have H : ((date_good.f a0).bind fun t140 => (if t140 = true then (some (wrap64 ((Int.tmod a0 7) + 1))) else (some 0))) = some r := h
 clear h
 replace H := Option.bind_eq_some_iff.mp H
 obtain ⟨t140, A20, H⟩ := H
 replace H : (if t140 = true then (some (wrap64 ((Int.tmod a0 7) + 1))) else (some 0)) = some r := H
 have A2 := Aside0.mk A20
 clear A20
 by_cases c3 : t140 = true
 ·subst c3
  have H1 : (some (wrap64 ((Int.tmod a0 7) + 1))) = some r := by rw [if_pos rfl] at H; exact H
  clear H
  have H := H1
  clear H1
  obtain rfl := Option.some.inj H
  go_enter Tryz.func100, Tryz.ntmps100
  go_wp2_with (first | ((with_reducible refine gate_callee (f := 85) rfl ?_); refine goesL_ (some 4) rfl rfl Tryz.func85 (by kernel_rfl) rfl #[.int .i64 a0] rfl (by (try simp only [List.map_toArray, List.map_cons, List.map_nil]); first | done | rfl | (simp only [List.length_drop, List.length_take]; rfl)) ?_; (with_reducible refine (date_good.calls a0 true _ A2.out).mono ?_); rintro e w' ⟨rfl, ⟨nd, rfl⟩⟩; refine ⟨_, rfl, ?_⟩))
  go_ret
  exact ⟨zrl, zdn⟩
 ·replace c3 := Bool.eq_false_iff.mpr c3
  subst c3
  have H1 : (some 0) = some r := by rw [if_neg (show ¬ (false = true) by decide)] at H; exact H
  clear H
  have H := H1
  clear H1
  obtain rfl := Option.some.inj H
  go_enter Tryz.func100, Tryz.ntmps100
  go_wp2_with (first | ((with_reducible refine gate_callee (f := 85) rfl ?_); refine goesL_ (some 4) rfl rfl Tryz.func85 (by kernel_rfl) rfl #[.int .i64 a0] rfl (by (try simp only [List.map_toArray, List.map_cons, List.map_nil]); first | done | rfl | (simp only [List.length_drop, List.length_take]; rfl)) ?_; (with_reducible refine (date_good.calls a0 false _ A2.out).mono ?_); rintro e w' ⟨rfl, ⟨nd, rfl⟩⟩; refine ⟨_, rfl, ?_⟩))
  go_ret
  exact ⟨zrl, zdn⟩
def num_Good.f (a0 : Int) : Option (Bool) := if a0 ≥ (-100000000000) then (some (decide (a0 ≤ 100000000000))) else (some false)
set_option maxHeartbeats 8000000 in
set_option maxRecDepth 100000 in
theorem num_Good.calls (a0 : Int) (r : Bool) (w : World) (h : num_Good.f a0 = some r) :
  Calls Tryz.prog 118 #[.int .i64 a0] w fun e w' => e = .returned (.bool r) ∧ Drawn0 w w' := by
 have H : (if a0 ≥ (-100000000000) then (some (decide (a0 ≤ 100000000000))) else (some false)) = some r := h
 clear h
 by_cases c2 : a0 ≥ (-100000000000)
 ·rw [if_pos c2] at H
  have c2b0 : decide ((-100000000000) ≤ a0) = true := decide_eq_true c2
  clear c2
  obtain rfl := Option.some.inj H
  go_enter Tryz.func118, Tryz.ntmps118
  go_wp2
  go_ret
  exact ⟨zrl, zdn⟩
 ·rw [if_neg c2] at H
  have c2b0 : decide ((-100000000000) ≤ a0) = false := decide_eq_false c2
  clear c2
  obtain rfl := Option.some.inj H
  go_enter Tryz.func118, Tryz.ntmps118
  go_wp2
  go_ret
  exact ⟨zrl, zdn⟩
def strings_CutPrefix.f (a0 : ByteArray) (a1 : ByteArray) : Option (ByteArray × Bool) := (stringslite_CutPrefix.f a0 a1).bind fun bt141 => (some (bt141.1, bt141.2))
set_option maxHeartbeats 8000000 in
set_option maxRecDepth 100000 in
theorem strings_CutPrefix.calls (a0 : ByteArray) (a1 : ByteArray) (r1 : ByteArray) (r2 : Bool) (w : World) (h : strings_CutPrefix.f a0 a1 = some (r1, r2)) :
  Calls Tryz.prog 134 #[.string a0, .string a1] w fun e w' => e = .returned (.tuple #[.string r1, .bool r2]) ∧ Drawn0 w w' := by
 have H : ((stringslite_CutPrefix.f a0 a1).bind fun bt141 => (some (bt141.1, bt141.2))) = some (r1, r2) := h
 clear h
 replace H := Option.bind_eq_some_iff.mp H
 obtain ⟨⟨t141, t142⟩, A30, H⟩ := H
 replace H : (some (t141, t142)) = some (r1, r2) := H
 have A3 := Aside0.mk A30
 clear A30
 simp only [Option.some.injEq, Prod.mk.injEq] at H
 obtain ⟨rfl, rfl⟩ := H
 go_enter Tryz.func134, Tryz.ntmps134
 go_wp2_with (first | ((with_reducible refine gate_callee (f := 144) rfl ?_); refine goesL_ (some 8) rfl rfl Tryz.func144 (by kernel_rfl) rfl #[.string a0, .string a1] rfl (by (try simp only [List.map_toArray, List.map_cons, List.map_nil]); first | done | rfl | (simp only [List.length_drop, List.length_take]; rfl)) ?_; (with_reducible refine (stringslite_CutPrefix.calls a0 a1 t141 t142 _ A3.out).mono ?_); rintro e w' ⟨rfl, ⟨nd, rfl⟩⟩; refine ⟨_, rfl, ?_⟩))
 go_ret2
 exact ⟨zrl, zdn⟩
def strings_Cut.f (k : Nat) (a0 : ByteArray) (a1 : ByteArray) : Option (ByteArray × ByteArray × Bool) := (stringslite_Cut.f k a0 a1).bind fun bt143 => (some (bt143.1, bt143.2.1, bt143.2.2))
theorem strings_Cut.mono : ∀ a0 a1 k, LeO (strings_Cut.f k a0 a1) (strings_Cut.f (k + 1) a0 a1) := by
 intro a0 a1 k
 unfold strings_Cut.f
 repeat' first
   | (with_reducible exact stringslite_Cut.mono _ _ _)
   | (with_reducible exact LeO.refl _)
   | (with_reducible exact LeO.none _)
   | (with_reducible refine LeO.ite ?_ ?_)
   | (with_reducible refine LeO.bind ?_ (fun _ => ?_))
   | exact stringslite_Cut.mono _ _ _
   | exact LeO.none _
   | refine LeO.ite ?_ ?_
   | refine LeO.bind ?_ (fun _ => ?_)
set_option maxHeartbeats 8000000 in
set_option maxRecDepth 100000 in
theorem strings_Cut.calls (k : Nat) (a0 : ByteArray) (a1 : ByteArray) (r1 : ByteArray) (r2 : ByteArray) (r3 : Bool) (w : World) (h : strings_Cut.f k a0 a1 = some (r1, r2, r3)) :
  Calls Tryz.prog 135 #[.string a0, .string a1] w fun e w' => e = .returned (.tuple #[.string r1, .string r2, .bool r3]) ∧ Drawn0 w w' := by
 have H : ((stringslite_Cut.f k a0 a1).bind fun bt143 => (some (bt143.1, bt143.2.1, bt143.2.2))) = some (r1, r2, r3) := h
 clear h
 replace H := Option.bind_eq_some_iff.mp H
 obtain ⟨⟨t143, t144, t145⟩, A30, H⟩ := H
 replace H : (some (t143, t144, t145)) = some (r1, r2, r3) := H
 have A3 := Aside0.mk A30
 clear A30
 simp only [Option.some.injEq, Prod.mk.injEq] at H
 obtain ⟨rfl, rfl, rfl⟩ := H
 go_enter Tryz.func135, Tryz.ntmps135
 go_wp2_with (first | ((with_reducible refine gate_callee (f := 145) rfl ?_); refine goesL_ (some 9) rfl rfl Tryz.func145 (by kernel_rfl) rfl #[.string a0, .string a1] rfl (by (try simp only [List.map_toArray, List.map_cons, List.map_nil]); first | done | rfl | (simp only [List.length_drop, List.length_take]; rfl)) ?_; (with_reducible refine (stringslite_Cut.calls k a0 a1 t143 t144 t145 _ A3.out).mono ?_); rintro e w' ⟨rfl, ⟨nd, rfl⟩⟩; refine ⟨_, rfl, ?_⟩))
 go_ret3
 exact ⟨zrl, zdn⟩
def num_count.f (a0 : ByteArray) (a1 : Int) (a2 : Int) : Option (Int × Bool) := some (match X.cntf a0.data.toList 0 with | none => (0, false) | some n => (n, decide (a1 ≤ (a0.size : Int)) && decide ((a0.size : Int) ≤ a2)))
set_option maxHeartbeats 8000000 in
set_option maxRecDepth 1000000 in
theorem num_count.calls (a0 : ByteArray) (a1 : Int) (a2 : Int) (r1 : Int) (r2 : Bool) (w : World) (h : num_count.f a0 a1 a2 = some (r1, r2)) :
  Calls Tryz.prog 136 #[.string a0, .int .i64 a1, .int .i64 a2] w fun e w' => e = .returned (.tuple #[.int .i64 r1, .bool r2]) ∧ Below w.heap.size w w' := by
 have HR := Aside0.mk h
 clear h
 go_enter Tryz.func136, Tryz.ntmps136
 go_wp2
 go_loopw [8] (fun v8 w' => ∃ (pos : Nat) (n : Int), w' = w.iter a0 pos ∧ v8 = .int .i64 n ∧ Aside0 (0 ≤ n ∧ n ≤ 1125899906842624) ∧ Aside0 (X.cntf (a0.data.toList.drop pos) n = X.cntf a0.data.toList 0)) (fun _ w' => a0.size - w'.iterPos w.heap.size)
 case atStart => exact ⟨0, 0, rfl, rfl, ⟨by omega, by omega⟩, ⟨rfl⟩⟩
 case round =>
  obtain ⟨pos, n, rfl, rfl, HN, HC⟩ := hrel
  have n0 := HN.out.1
  have n1 := HN.out.2
  by_cases hp : pos < a0.size
  ·have hd := HC.out
   rw [X.drop_get a0 pos hp] at hd
   simp only [X.cntf] at hd
   have hlt := (a0[pos]'hp).toNat_lt
   by_cases hc : (a0[pos]'hp).toNat < 128
   ·have hnx : ∀ ty, (Instr.next (.pointer (some ⟨w.heap.size, 0, none⟩)) true ty).run Tryz.prog (w.iter a0 pos) = _ := fun ty => run_next_ascii w a0 pos ty hp hc
    generalize hg : ((a0[pos]'hp).toNat : Int) = c at *
    have hc2 : c < 128 := by omega
    have hc0 : 0 ≤ c := by omega
    clear hlt hc
    by_cases b1 : c < 48
    ·rw [if_pos (.inl b1)] at hd
     have b1b : decide (c < 48) = true := decide_eq_true b1
     have hr := HR.out
     unfold num_count.f at hr
     rw [← hd] at hr
     simp only [Option.some.injEq, Prod.mk.injEq] at hr
     have Hr := Aside0.mk hr
     clear hr hd b1
     clear hg
     go_wp2
     go_ret2
     exact ⟨by rw [← Hr.out.1, ← Hr.out.2]; rfl, X.below_iter (Below.refl _ _) (Nat.le_refl _) _ _⟩
    ·have b1b : decide (c < 48) = false := decide_eq_false b1
     by_cases b2 : 57 < c
     ·rw [if_pos (.inr b2)] at hd
      have b2b : decide (57 < c) = true := decide_eq_true b2
      have hr := HR.out
      unfold num_count.f at hr
      rw [← hd] at hr
      simp only [Option.some.injEq, Prod.mk.injEq] at hr
      have Hr := Aside0.mk hr
      clear hr hd b1 b2
      clear hg
      go_wp2
      go_ret2
      exact ⟨by rw [← Hr.out.1, ← Hr.out.2]; rfl, X.below_iter (Below.refl _ _) (Nat.le_refl _) _ _⟩
     ·have b2b : decide (57 < c) = false := decide_eq_false b2
      rw [if_neg (by omega)] at hd
      have b3 : 48 ≤ c := by omega
      have b4 : c ≤ 57 := by omega
      by_cases b5 : 10 * n + (c - 48) > 1125899906842624
      ·rw [if_pos b5] at hd
       have b5b : decide (1125899906842624 < 10 * n + (c - 48)) = true := decide_eq_true b5
       have Hd := Aside0.mk hd
       clear hd b5 hg b1 b2
       go_wp2
       go_roundw
       case rel => exact ⟨pos + 1, _, rfl, rfl, ⟨by omega, by omega⟩, Hd⟩
       case measure => simp; omega
      ·rw [if_neg b5] at hd
       have b5b : decide (1125899906842624 < 10 * n + (c - 48)) = false := decide_eq_false b5
       have Hd := Aside0.mk hd
       have b6 : 10 * n + (c - 48) ≤ 1125899906842624 := by omega
       clear hd b5 hg b1 b2
       go_wp2
       go_roundw
       case rel => exact ⟨pos + 1, _, rfl, rfl, ⟨by omega, by omega⟩, Hd⟩
       case measure => simp; omega
   ·have hnx : ∀ ty, (Instr.next (.pointer (some ⟨w.heap.size, 0, none⟩)) true ty).run Tryz.prog (w.iter a0 pos) = _ := fun ty => run_next_any w a0 pos ty hp
    have hh := (decode_high a0 pos hp (by omega)).1
    rw [if_pos (.inr (by omega))] at hd
    have hr := HR.out
    unfold num_count.f at hr
    rw [← hd] at hr
    simp only [Option.some.injEq, Prod.mk.injEq] at hr
    have Hr := Aside0.mk hr
    generalize hgd : Utf8.decode a0 pos = D at *
    obtain ⟨rn, wd⟩ := D
    simp only at hh
    have b1b : decide ((rn : Int) < 48) = false := decide_eq_false (by omega)
    have b2b : decide (57 < (rn : Int)) = true := decide_eq_true (by omega)
    clear hr hd hgd hh hlt hc
    go_wp2
    go_ret2
    exact ⟨by rw [← Hr.out.1, ← Hr.out.2]; rfl, X.below_iter (Below.refl _ _) (Nat.le_refl _) _ _⟩
  ·have hnx : ∀ ty, (Instr.next (.pointer (some ⟨w.heap.size, 0, none⟩)) true ty).run Tryz.prog (w.iter a0 pos) = _ := fun ty => run_next_end w a0 pos ty hp
   have hd := HC.out
   rw [List.drop_of_length_le (by simpa using hp)] at hd
   simp only [X.cntf] at hd
   have hr := HR.out
   unfold num_count.f at hr
   rw [← hd] at hr
   simp only [Option.some.injEq, Prod.mk.injEq] at hr
   have Hr := Aside0.mk hr
   clear hr hd
   by_cases c1 : a1 ≤ (a0.size : Int)
   ·have c1b : decide (a1 ≤ (a0.size : Int)) = true := decide_eq_true c1
    by_cases c2 : (a0.size : Int) ≤ a2
    ·have c2b : decide ((a0.size : Int) ≤ a2) = true := decide_eq_true c2
     clear c1 c2 hp
     go_wp2
     go_ret2
     exact ⟨by rw [← Hr.out.1, ← Hr.out.2]; simp [c1b, c2b], X.below_iter (Below.refl _ _) (Nat.le_refl _) _ _⟩
    ·have c2b : decide ((a0.size : Int) ≤ a2) = false := decide_eq_false c2
     clear c1 c2 hp
     go_wp2
     go_ret2
     exact ⟨by rw [← Hr.out.1, ← Hr.out.2]; simp [c1b, c2b], X.below_iter (Below.refl _ _) (Nat.le_refl _) _ _⟩
   ·have c1b : decide (a1 ≤ (a0.size : Int)) = false := decide_eq_false c1
    clear c1 hp
    go_wp2
    go_ret2
    exact ⟨by rw [← Hr.out.1, ← Hr.out.2]; simp [c1b], X.below_iter (Below.refl _ _) (Nat.le_refl _) _ _⟩
def num_told.f (a0 : Int) : Option (Int × Bool) := (num_Good.f a0).bind fun t146 => (if t146 = true then (some (a0, true)) else (some (0, false)))
set_option maxHeartbeats 8000000 in
set_option maxRecDepth 100000 in
theorem num_told.calls (a0 : Int) (r1 : Int) (r2 : Bool) (w : World) (h : num_told.f a0 = some (r1, r2)) :
  Calls Tryz.prog 137 #[.int .i64 a0] w fun e w' => e = .returned (.tuple #[.int .i64 r1, .bool r2]) ∧ Drawn0 w w' := by
 have H : ((num_Good.f a0).bind fun t146 => (if t146 = true then (some (a0, true)) else (some (0, false)))) = some (r1, r2) := h
 clear h
 replace H := Option.bind_eq_some_iff.mp H
 obtain ⟨t146, A20, H⟩ := H
 replace H : (if t146 = true then (some (a0, true)) else (some (0, false))) = some (r1, r2) := H
 have A2 := Aside0.mk A20
 clear A20
 by_cases c3 : t146 = true
 ·subst c3
  have H1 : (some (a0, true)) = some (r1, r2) := by rw [if_pos rfl] at H; exact H
  clear H
  have H := H1
  clear H1
  simp only [Option.some.injEq, Prod.mk.injEq] at H
  obtain ⟨rfl, rfl⟩ := H
  go_enter Tryz.func137, Tryz.ntmps137
  go_wp2_with (first | ((with_reducible refine gate_callee (f := 118) rfl ?_); refine goesL_ (some 5) rfl rfl Tryz.func118 (by kernel_rfl) rfl #[.int .i64 a0] rfl (by (try simp only [List.map_toArray, List.map_cons, List.map_nil]); first | done | rfl | (simp only [List.length_drop, List.length_take]; rfl)) ?_; (with_reducible refine (num_Good.calls a0 true _ A2.out).mono ?_); rintro e w' ⟨rfl, ⟨nd, rfl⟩⟩; refine ⟨_, rfl, ?_⟩))
  go_ret2
  exact ⟨zrl, zdn⟩
 ·replace c3 := Bool.eq_false_iff.mpr c3
  subst c3
  have H1 : (some (0, false)) = some (r1, r2) := by rw [if_neg (show ¬ (false = true) by decide)] at H; exact H
  clear H
  have H := H1
  clear H1
  simp only [Option.some.injEq, Prod.mk.injEq] at H
  obtain ⟨rfl, rfl⟩ := H
  go_enter Tryz.func137, Tryz.ntmps137
  go_wp2_with (first | ((with_reducible refine gate_callee (f := 118) rfl ?_); refine goesL_ (some 5) rfl rfl Tryz.func118 (by kernel_rfl) rfl #[.int .i64 a0] rfl (by (try simp only [List.map_toArray, List.map_cons, List.map_nil]); first | done | rfl | (simp only [List.length_drop, List.length_take]; rfl)) ?_; (with_reducible refine (num_Good.calls a0 false _ A2.out).mono ?_); rintro e w' ⟨rfl, ⟨nd, rfl⟩⟩; refine ⟨_, rfl, ?_⟩))
  go_ret2
  exact ⟨zrl, zdn⟩
mutual
def num_Parse.j0 : Nat → Bool → ByteArray → Int → Int → Bool → Option (Int × Bool)
 | 0, _, _, _, _, _ => none
 | k + 1, x4, x6, x8, x10, x41 => if x41 = true then (some (0, false)) else (num_Parse.l0 k x4 x8 x10 (wrap64 (4 - (x6.size : Int))) 0)
def num_Parse.l0 : Nat → Bool → Int → Int → Int → Int → Option (Int × Bool)
 | 0, _, _, _, _, _ => none
 | k + 1, x4, x8, x10, x44, x45 => if x45 < x44 then (num_Parse.l0 k x4 x8 (wrap64 (x10 * 10)) x44 (wrap64 (x45 + 1))) else (if x4 = true then ((num_told.f (wrap64 (-(wrap64 ((wrap64 (x8 * 10000)) + x10))))).bind fun bt156 => (some (bt156.1, bt156.2))) else ((num_told.f (wrap64 ((wrap64 (x8 * 10000)) + x10))).bind fun bt158 => (some (bt158.1, bt158.2))))
end
def num_Parse.f (k : Nat) (a0 : ByteArray) : Option (Int × Bool) := (strings_CutPrefix.f a0 (⟨#[45]⟩ : ByteArray)).bind fun bt147 => ((strings_Cut.f k bt147.1 (⟨#[46]⟩ : ByteArray)).bind fun bt149 => ((num_count.f bt149.1 1 12).bind fun bt152 => ((num_count.f bt149.2.1 1 4).bind fun bt154 => (if bt152.2 = true then (if bt149.2.2 = true then (num_Parse.j0 k bt147.2 bt149.2.1 bt152.1 bt154.1 (!bt154.2)) else (num_Parse.j0 k bt147.2 bt149.2.1 bt152.1 bt154.1 false)) else (num_Parse.j0 k bt147.2 bt149.2.1 bt152.1 bt154.1 true)))))
theorem num_Parse.mono_l : ∀ k, (∀ y0 y1 y2 y3 y4, LeO (num_Parse.j0 k y0 y1 y2 y3 y4) (num_Parse.j0 (k + 1) y0 y1 y2 y3 y4)) ∧ (∀ y0 y1 y2 y3 y4, LeO (num_Parse.l0 k y0 y1 y2 y3 y4) (num_Parse.l0 (k + 1) y0 y1 y2 y3 y4))
 | 0 => ⟨fun _ _ _ _ _ r h => by simp [num_Parse.j0] at h, fun _ _ _ _ _ r h => by simp [num_Parse.l0] at h⟩
 | k + 1 => by
  obtain ⟨ih0, ih1⟩ := num_Parse.mono_l k
  refine ⟨?_, ?_⟩
  ·intro y0 y1 y2 y3 y4
   unfold num_Parse.j0
   repeat' first
   | (with_reducible exact ih0 _ _ _ _ _)
   | (with_reducible exact ih1 _ _ _ _ _)
   | (with_reducible exact strings_Cut.mono _ _ _)
   | (with_reducible exact LeO.refl _)
   | (with_reducible exact LeO.none _)
   | (with_reducible refine LeO.ite ?_ ?_)
   | (with_reducible refine LeO.bind ?_ (fun _ => ?_))
   | exact ih0 _ _ _ _ _
   | exact ih1 _ _ _ _ _
   | exact strings_Cut.mono _ _ _
   | exact LeO.none _
   | refine LeO.ite ?_ ?_
   | refine LeO.bind ?_ (fun _ => ?_)
  ·intro y0 y1 y2 y3 y4
   unfold num_Parse.l0
   repeat' first
   | (with_reducible exact ih0 _ _ _ _ _)
   | (with_reducible exact ih1 _ _ _ _ _)
   | (with_reducible exact strings_Cut.mono _ _ _)
   | (with_reducible exact LeO.refl _)
   | (with_reducible exact LeO.none _)
   | (with_reducible refine LeO.ite ?_ ?_)
   | (with_reducible refine LeO.bind ?_ (fun _ => ?_))
   | exact ih0 _ _ _ _ _
   | exact ih1 _ _ _ _ _
   | exact strings_Cut.mono _ _ _
   | exact LeO.none _
   | refine LeO.ite ?_ ?_
   | refine LeO.bind ?_ (fun _ => ?_)
theorem num_Parse.mono : ∀ a0 k, LeO (num_Parse.f k a0) (num_Parse.f (k + 1) a0) := by
 intro a0 k
 obtain ⟨ih0, ih1⟩ := num_Parse.mono_l k
 unfold num_Parse.f
 repeat' first
   | (with_reducible exact ih0 _ _ _ _ _)
   | (with_reducible exact ih1 _ _ _ _ _)
   | (with_reducible exact strings_Cut.mono _ _ _)
   | (with_reducible exact LeO.refl _)
   | (with_reducible exact LeO.none _)
   | (with_reducible refine LeO.ite ?_ ?_)
   | (with_reducible refine LeO.bind ?_ (fun _ => ?_))
   | exact ih0 _ _ _ _ _
   | exact ih1 _ _ _ _ _
   | exact strings_Cut.mono _ _ _
   | exact LeO.none _
   | refine LeO.ite ?_ ?_
   | refine LeO.bind ?_ (fun _ => ?_)
set_option maxHeartbeats 8000000 in
set_option maxRecDepth 100000 in
theorem num_Parse.calls (k : Nat) (a0 : ByteArray) (r1 : Int) (r2 : Bool) (w : World) (h : num_Parse.f k a0 = some (r1, r2)) :
  Calls Tryz.prog 117 #[.string a0] w fun e w' => e = .returned (.tuple #[.int .i64 r1, .bool r2]) ∧ Below w.heap.size w w' := by
 have HB := Aside0.mk (Below.refl w.heap.size w)
 have H : ((strings_CutPrefix.f a0 (⟨#[45]⟩ : ByteArray)).bind fun bt147 => ((strings_Cut.f k bt147.1 (⟨#[46]⟩ : ByteArray)).bind fun bt149 => ((num_count.f bt149.1 1 12).bind fun bt152 => ((num_count.f bt149.2.1 1 4).bind fun bt154 => (if bt152.2 = true then (if bt149.2.2 = true then (num_Parse.j0 k bt147.2 bt149.2.1 bt152.1 bt154.1 (!bt154.2)) else (num_Parse.j0 k bt147.2 bt149.2.1 bt152.1 bt154.1 false)) else (num_Parse.j0 k bt147.2 bt149.2.1 bt152.1 bt154.1 true)))))) = some (r1, r2) := h
 clear h
 replace H := Option.bind_eq_some_iff.mp H
 obtain ⟨⟨t147, t148⟩, A20, H⟩ := H
 replace H : ((strings_Cut.f k t147 (⟨#[46]⟩ : ByteArray)).bind fun bt149 => ((num_count.f bt149.1 1 12).bind fun bt152 => ((num_count.f bt149.2.1 1 4).bind fun bt154 => (if bt152.2 = true then (if bt149.2.2 = true then (num_Parse.j0 k t148 bt149.2.1 bt152.1 bt154.1 (!bt154.2)) else (num_Parse.j0 k t148 bt149.2.1 bt152.1 bt154.1 false)) else (num_Parse.j0 k t148 bt149.2.1 bt152.1 bt154.1 true))))) = some (r1, r2) := H
 have A2 := Aside0.mk A20
 clear A20
 replace H := Option.bind_eq_some_iff.mp H
 obtain ⟨⟨t149, t150, t151⟩, A30, H⟩ := H
 replace H : ((num_count.f t149 1 12).bind fun bt152 => ((num_count.f t150 1 4).bind fun bt154 => (if bt152.2 = true then (if t151 = true then (num_Parse.j0 k t148 t150 bt152.1 bt154.1 (!bt154.2)) else (num_Parse.j0 k t148 t150 bt152.1 bt154.1 false)) else (num_Parse.j0 k t148 t150 bt152.1 bt154.1 true)))) = some (r1, r2) := H
 have A3 := Aside0.mk A30
 clear A30
 replace H := Option.bind_eq_some_iff.mp H
 obtain ⟨⟨t152, t153⟩, A40, H⟩ := H
 replace H : ((num_count.f t150 1 4).bind fun bt154 => (if t153 = true then (if t151 = true then (num_Parse.j0 k t148 t150 t152 bt154.1 (!bt154.2)) else (num_Parse.j0 k t148 t150 t152 bt154.1 false)) else (num_Parse.j0 k t148 t150 t152 bt154.1 true))) = some (r1, r2) := H
 have A4 := Aside0.mk A40
 clear A40
 replace H := Option.bind_eq_some_iff.mp H
 obtain ⟨⟨t154, t155⟩, A50, H⟩ := H
 replace H : (if t153 = true then (if t151 = true then (num_Parse.j0 k t148 t150 t152 t154 (!t155)) else (num_Parse.j0 k t148 t150 t152 t154 false)) else (num_Parse.j0 k t148 t150 t152 t154 true)) = some (r1, r2) := H
 have A5 := Aside0.mk A50
 clear A50
 have HC6 := Aside0.mk H
 clear H
 go_enter Tryz.func117, Tryz.ntmps117
 go_upto_region 5 with (first | ((with_reducible refine gate_callee (f := 134) rfl ?_); refine goesL_ (some 14) rfl rfl Tryz.func134 (by kernel_rfl) rfl #[.string a0, .string (⟨#[45]⟩ : ByteArray)] rfl (by (try simp only [List.map_toArray, List.map_cons, List.map_nil]); first | done | rfl | (simp only [List.length_drop, List.length_take]; rfl)) ?_; (with_reducible refine (strings_CutPrefix.calls a0 (⟨#[45]⟩ : ByteArray) t147 t148 _ A2.out).mono ?_); rintro e w' ⟨rfl, ⟨nd, rfl⟩⟩; refine ⟨_, rfl, ?_⟩) | ((with_reducible refine gate_callee (f := 135) rfl ?_); refine goesL_ (some 19) rfl rfl Tryz.func135 (by kernel_rfl) rfl #[.string t147, .string (⟨#[46]⟩ : ByteArray)] rfl (by (try simp only [List.map_toArray, List.map_cons, List.map_nil]); first | done | rfl | (simp only [List.length_drop, List.length_take]; rfl)) ?_; (with_reducible refine (strings_Cut.calls k t147 (⟨#[46]⟩ : ByteArray) t149 t150 t151 _ A3.out).mono ?_); rintro e w' ⟨rfl, ⟨nd, rfl⟩⟩; refine ⟨_, rfl, ?_⟩) | ((with_reducible refine gate_callee (f := 136) rfl ?_); refine goesL_ (some 25) rfl rfl Tryz.func136 (by kernel_rfl) rfl #[.string t149, .int .i64 1, .int .i64 12] rfl (by (try simp only [List.map_toArray, List.map_cons, List.map_nil]); first | done | rfl | (simp only [List.length_drop, List.length_take]; rfl)) ?_; (with_reducible refine (num_count.calls t149 1 12 t152 t153 _ A4.out).mono ?_); rintro e w7 ⟨rfl, hb⟩; refine ⟨_, rfl, ?_⟩; have n0_ := Aside0.mk (below_step (by repeat (first | (with_reducible first | exact HB.out | apply below_alloc | apply pw_below_drewN | apply below_drew1) | exact HB.out)) hb); clear HB; have HB := n0_; clear n0_; (try clear hb); (try clear hb2); (try clear hk); (try clear hi)) | ((with_reducible refine gate_callee (f := 136) rfl ?_); refine goesL_ (some 30) rfl rfl Tryz.func136 (by kernel_rfl) rfl #[.string t150, .int .i64 1, .int .i64 4] rfl (by (try simp only [List.map_toArray, List.map_cons, List.map_nil]); first | done | rfl | (simp only [List.length_drop, List.length_take]; rfl)) ?_; (with_reducible refine (num_count.calls t150 1 4 t154 t155 _ A5.out).mono ?_); rintro e w8 ⟨rfl, hb⟩; refine ⟨_, rfl, ?_⟩; have n0_ := Aside0.mk (below_step (by repeat (first | (with_reducible first | exact HB.out | apply below_alloc | apply pw_below_drewN | apply below_drew1) | exact HB.out)) hb); clear HB; have HB := n0_; clear n0_; (try clear hb); (try clear hb2); (try clear hk); (try clear hi)))
 (try simp only [Act.put, List.setIfInBounds_toArray, List.set_cons_zero, List.set_cons_succ])
 go_cut [41] (fun v41 wc => ∃ (kq : Nat) (x41_5 : Bool), v41 = .bool x41_5 ∧ Aside0 (num_Parse.j0 kq t148 t150 t152 t154 x41_5 = some (r1, r2)) ∧ Aside0 (kq ≤ k) ∧ Aside0 (Below w.heap.size w wc))
 case first =>
  have H := HC6.out
  clear HC6
  by_cases c9 : t153 = true
  ·subst c9
   have H1 : (if t151 = true then (num_Parse.j0 k t148 t150 t152 t154 (!t155)) else (num_Parse.j0 k t148 t150 t152 t154 false)) = some (r1, r2) := by rw [if_pos rfl] at H; exact H
   clear H
   have H := H1
   clear H1
   by_cases c10 : t151 = true
   ·subst c10
    have H1 : (num_Parse.j0 k t148 t150 t152 t154 (!t155)) = some (r1, r2) := by rw [if_pos rfl] at H; exact H
    clear H
    have H := H1
    clear H1
    have H' := Aside0.mk H
    clear H
    go_wp2
    go_meet
    case rel => exact ⟨_, (!t155), zrl, H', ⟨by first | omega | exact Nat.le_refl _⟩, ⟨by repeat (first | (with_reducible first | exact HB.out | apply below_alloc | apply pw_below_drewN | apply below_drew1) | exact HB.out)⟩⟩
   ·replace c10 := Bool.eq_false_iff.mpr c10
    subst c10
    have H1 : (num_Parse.j0 k t148 t150 t152 t154 false) = some (r1, r2) := by rw [if_neg (show ¬ (false = true) by decide)] at H; exact H
    clear H
    have H := H1
    clear H1
    have H' := Aside0.mk H
    clear H
    go_wp2
    go_meet
    case rel => exact ⟨_, (false), zrl, H', ⟨by first | omega | exact Nat.le_refl _⟩, ⟨by repeat (first | (with_reducible first | exact HB.out | apply below_alloc | apply pw_below_drewN | apply below_drew1) | exact HB.out)⟩⟩
  ·replace c9 := Bool.eq_false_iff.mpr c9
   subst c9
   have H1 : (num_Parse.j0 k t148 t150 t152 t154 true) = some (r1, r2) := by rw [if_neg (show ¬ (false = true) by decide)] at H; exact H
   clear H
   have H := H1
   clear H1
   have H' := Aside0.mk H
   clear H
   go_wp2
   go_meet
   case rel => exact ⟨_, (true), zrl, H', ⟨by first | omega | exact Nat.le_refl _⟩, ⟨by repeat (first | (with_reducible first | exact HB.out | apply below_alloc | apply pw_below_drewN | apply below_drew1) | exact HB.out)⟩⟩
 case rest =>
  clear HC6
  try clear c1
  try clear p2
  try clear c9
  try clear c10
  obtain ⟨kq, x41_5, rfl, HA, HJ5, HB⟩ := hcut
  cases kq with
  | zero => exact absurd HA.out (by simp [num_Parse.j0])
  | succ kj5 =>
   have H := HA.out
   clear HA
   simp only [num_Parse.j0] at H
   by_cases c11 : x41_5 = true
   ·subst c11
    have H1 : (some (0, false)) = some (r1, r2) := by rw [if_pos rfl] at H; exact H
    clear H
    have H := H1
    clear H1
    simp only [Option.some.injEq, Prod.mk.injEq] at H
    obtain ⟨rfl, rfl⟩ := H
    go_wp2
    go_ret2
    exact ⟨by first | rfl | (simp [errW_none, errW_some] <;> rfl) | (simp [*, errW_none, errW_some] <;> rfl), by repeat (first | (with_reducible first | exact HB.out | apply below_alloc | apply pw_below_drewN | apply below_drew1) | exact HB.out)⟩
   ·replace c11 := Bool.eq_false_iff.mpr c11
    subst c11
    have H1 : (num_Parse.l0 kj5 t148 t152 t154 (wrap64 (4 - (t150.size : Int))) 0) = some (r1, r2) := by rw [if_neg (show ¬ (false = true) by decide)] at H; exact H
    clear H
    have H := H1
    clear H1
    have H' := Aside0.mk H
    clear H
    go_wp2
    go_loopg [10, 45] kj5 (fun kq v10 v45 w' => ∃ (x10_2 : Int) (x45_2 : Int), v10 = .int .i64 x10_2 ∧ v45 = .int .i64 x45_2 ∧ Aside0 (num_Parse.l0 kq t148 t152 x10_2 (wrap64 (4 - (t150.size : Int))) x45_2 = some (r1, r2)) ∧ Aside0 (kq ≤ kj5) ∧ Aside0 (Below w.heap.size w w'))
    case atStart => exact ⟨(t154), (0), zrl, zrl, H', ⟨Nat.le_refl _⟩, ⟨by repeat (first | (with_reducible first | exact HB.out | apply below_alloc | apply pw_below_drewN | apply below_drew1) | exact HB.out)⟩⟩
    case round =>
     clear H'
     try clear c1
     try clear p2
     try clear p6
     try clear c9
     try clear c10
     try clear c11
     try clear p2
     obtain ⟨x10_2, x45_2, rfl, rfl, HA, HK2, HB⟩ := hrel
     cases gk with
     | zero => exact absurd HA.out (by simp [num_Parse.l0])
     | succ k2 =>
      have H := HA.out
      clear HA
      simp only [num_Parse.l0] at H
      by_cases c12 : x45_2 < (wrap64 (4 - (t150.size : Int)))
      ·rw [if_pos c12] at H
       have c12b0 : decide (x45_2 < (wrap64 (4 - (t150.size : Int)))) = true := decide_eq_true c12
       clear c12
       have H' := Aside0.mk H
       clear H
       go_wp2
       go_roundg k2
       case measure => have := HJ5.out; have := HK2.out; omega
       case rel => exact ⟨(wrap64 (x10_2 * 10)), (wrap64 (x45_2 + 1)), zrl, zrl, H', ⟨by have := HJ5.out; have := HK2.out; omega⟩, ⟨by repeat (first | (with_reducible first | exact HB.out | apply below_alloc | apply pw_below_drewN | apply below_drew1) | exact HB.out)⟩⟩
      ·rw [if_neg c12] at H
       have c12b0 : decide (x45_2 < (wrap64 (4 - (t150.size : Int)))) = false := decide_eq_false c12
       clear c12
       by_cases c13 : t148 = true
       ·subst c13
        have H1 : ((num_told.f (wrap64 (-(wrap64 ((wrap64 (t152 * 10000)) + x10_2))))).bind fun bt156 => (some (bt156.1, bt156.2))) = some (r1, r2) := by rw [if_pos rfl] at H; exact H
        clear H
        have H := H1
        clear H1
        replace H := Option.bind_eq_some_iff.mp H
        obtain ⟨⟨t156, t157⟩, A140, H⟩ := H
        replace H : (some (t156, t157)) = some (r1, r2) := H
        have A14 := Aside0.mk A140
        clear A140
        simp only [Option.some.injEq, Prod.mk.injEq] at H
        obtain ⟨rfl, rfl⟩ := H
        go_wp2_with (first | ((with_reducible refine gate_callee (f := 137) rfl ?_); refine goesL_ (some 58) rfl rfl Tryz.func137 (by kernel_rfl) rfl #[.int .i64 (wrap64 (-(wrap64 ((wrap64 (t152 * 10000)) + x10_2))))] rfl (by (try simp only [List.map_toArray, List.map_cons, List.map_nil]); first | done | rfl | (simp only [List.length_drop, List.length_take]; rfl)) ?_; (with_reducible refine (num_told.calls (wrap64 (-(wrap64 ((wrap64 (t152 * 10000)) + x10_2)))) t156 t157 _ A14.out).mono ?_); rintro e w' ⟨rfl, ⟨nd, rfl⟩⟩; refine ⟨_, rfl, ?_⟩))
        go_ret2
        exact ⟨by first | rfl | (simp [errW_none, errW_some] <;> rfl) | (simp [*, errW_none, errW_some] <;> rfl), by repeat (first | (with_reducible first | exact HB.out | apply below_alloc | apply pw_below_drewN | apply below_drew1) | exact HB.out)⟩
       ·replace c13 := Bool.eq_false_iff.mpr c13
        subst c13
        have H1 : ((num_told.f (wrap64 ((wrap64 (t152 * 10000)) + x10_2))).bind fun bt158 => (some (bt158.1, bt158.2))) = some (r1, r2) := by rw [if_neg (show ¬ (false = true) by decide)] at H; exact H
        clear H
        have H := H1
        clear H1
        replace H := Option.bind_eq_some_iff.mp H
        obtain ⟨⟨t158, t159⟩, A150, H⟩ := H
        replace H : (some (t158, t159)) = some (r1, r2) := H
        have A15 := Aside0.mk A150
        clear A150
        simp only [Option.some.injEq, Prod.mk.injEq] at H
        obtain ⟨rfl, rfl⟩ := H
        go_wp2_with (first | ((with_reducible refine gate_callee (f := 137) rfl ?_); refine goesL_ (some 58) rfl rfl Tryz.func137 (by kernel_rfl) rfl #[.int .i64 (wrap64 ((wrap64 (t152 * 10000)) + x10_2))] rfl (by (try simp only [List.map_toArray, List.map_cons, List.map_nil]); first | done | rfl | (simp only [List.length_drop, List.length_take]; rfl)) ?_; (with_reducible refine (num_told.calls (wrap64 ((wrap64 (t152 * 10000)) + x10_2)) t158 t159 _ A15.out).mono ?_); rintro e w' ⟨rfl, ⟨nd, rfl⟩⟩; refine ⟨_, rfl, ?_⟩))
        go_ret2
        exact ⟨by first | rfl | (simp [errW_none, errW_some] <;> rfl) | (simp [*, errW_none, errW_some] <;> rfl), by repeat (first | (with_reducible first | exact HB.out | apply below_alloc | apply pw_below_drewN | apply below_drew1) | exact HB.out)⟩
def num_size.f (a0 : Int) : Option (Int) := if a0 < 0 then (some (IntKind.u64.wrap (-(IntKind.u64.wrap (a0))))) else (some (IntKind.u64.wrap (a0)))
set_option maxHeartbeats 8000000 in
set_option maxRecDepth 100000 in
theorem num_size.calls (a0 : Int) (r : Int) (w : World) (h : num_size.f a0 = some r) :
  Calls Tryz.prog 139 #[.int .i64 a0] w fun e w' => e = .returned (.int .u64 r) ∧ Drawn0 w w' := by
 have H : (if a0 < 0 then (some (IntKind.u64.wrap (-(IntKind.u64.wrap (a0))))) else (some (IntKind.u64.wrap (a0)))) = some r := h
 clear h
 by_cases c2 : a0 < 0
 ·rw [if_pos c2] at H
  have c2b0 : decide (a0 < 0) = true := decide_eq_true c2
  clear c2
  obtain rfl := Option.some.inj H
  go_enter Tryz.func139, Tryz.ntmps139
  go_wp2
  go_ret
  exact ⟨zrl, zdn⟩
 ·rw [if_neg c2] at H
  have c2b0 : decide (a0 < 0) = false := decide_eq_false c2
  clear c2
  obtain rfl := Option.some.inj H
  go_enter Tryz.func139, Tryz.ntmps139
  go_wp2
  go_ret
  exact ⟨zrl, zdn⟩
end Go.Proofs.YtllceoncpgebpaaGreatDoor.P
