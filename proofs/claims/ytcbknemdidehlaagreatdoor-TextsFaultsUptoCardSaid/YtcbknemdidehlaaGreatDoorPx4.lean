-- Written by a program of this session (wip/tools/xprint.py), out of the seat's translation. Not trusted: Lean checks it.
import Derived.Test.YtcbknemdidehlaaGreatDoorPx0
import Derived.Test.YtcbknemdidehlaaGreatDoorPx1
namespace Go.Proofs.YtcbknemdidehlaaGreatDoor.P
open Go.RowKit Go.Proofs.YtcbknemdidehlaaGreatDoorW.PrintWords Go.Proofs.YtcbknemdidehlaaGreatDoorW.PrintLast Go.Proofs.YtcbknemdidehlaaGreatDoorW.PrintMore
attribute [local go_sem] max2_int min2_int max_two min_two max_three min_three max_four min_four X.binOp_str_gtr X.binOp_str_leq
set_option linter.unusedVariables false
set_option linter.unusedSimpArgs false
def utf8_RuneLen.j0 : Nat → Int → Bool → Option (Int)
 | 0, _, _ => none
 | k + 1, x0, x12 => if x12 = true then (some (-1)) else (if x0 ≤ 65535 then (some 3) else (if x0 ≤ 1114111 then (some 4) else (some (-1))))
def utf8_RuneLen.f (k : Nat) (a0 : Int) : Option (Int) := if a0 < 0 then (some (-1)) else (if a0 ≤ 127 then (some 1) else (if a0 ≤ 2047 then (some 2) else (if 55296 ≤ a0 then (utf8_RuneLen.j0 k a0 (decide (a0 ≤ 57343))) else (utf8_RuneLen.j0 k a0 false))))
theorem utf8_RuneLen.mono_l : ∀ k, (∀ y0 y1, LeO (utf8_RuneLen.j0 k y0 y1) (utf8_RuneLen.j0 (k + 1) y0 y1))
 | 0 => fun _ _ r h => by simp [utf8_RuneLen.j0] at h
 | k + 1 => by
  have ih0 := utf8_RuneLen.mono_l k
  ·intro y0 y1
   unfold utf8_RuneLen.j0
   repeat' first
   | (with_reducible exact ih0 _ _)
   | (with_reducible exact LeO.refl _)
   | (with_reducible exact LeO.none _)
   | (with_reducible refine LeO.ite ?_ ?_)
   | (with_reducible refine LeO.bind ?_ (fun _ => ?_))
   | exact ih0 _ _
   | exact LeO.none _
   | refine LeO.ite ?_ ?_
   | refine LeO.bind ?_ (fun _ => ?_)
theorem utf8_RuneLen.mono : ∀ a0 k, LeO (utf8_RuneLen.f k a0) (utf8_RuneLen.f (k + 1) a0) := by
 intro a0 k
 have ih0 := utf8_RuneLen.mono_l k
 unfold utf8_RuneLen.f
 repeat' first
   | (with_reducible exact ih0 _ _)
   | (with_reducible exact LeO.refl _)
   | (with_reducible exact LeO.none _)
   | (with_reducible refine LeO.ite ?_ ?_)
   | (with_reducible refine LeO.bind ?_ (fun _ => ?_))
   | exact ih0 _ _
   | exact LeO.none _
   | refine LeO.ite ?_ ?_
   | refine LeO.bind ?_ (fun _ => ?_)
set_option maxHeartbeats 8000000 in
set_option maxRecDepth 100000 in
theorem utf8_RuneLen.calls (k : Nat) (a0 : Int) (r : Int) (w : World) (h : utf8_RuneLen.f k a0 = some r) :
  Calls Tryz.prog 101 #[.int .i32 a0] w fun e w' => e = .returned (.int .i64 r) ∧ Drawn0 w w' := by
 have H : (if a0 < 0 then (some (-1)) else (if a0 ≤ 127 then (some 1) else (if a0 ≤ 2047 then (some 2) else (if 55296 ≤ a0 then (utf8_RuneLen.j0 k a0 (decide (a0 ≤ 57343))) else (utf8_RuneLen.j0 k a0 false))))) = some r := h
 clear h
 by_cases c2 : a0 < 0
 ·rw [if_pos c2] at H
  have c2b0 : decide (a0 < 0) = true := decide_eq_true c2
  clear c2
  obtain rfl := Option.some.inj H
  go_enter Tryz.func101, Tryz.ntmps101
  go_wp2
  go_ret
  exact ⟨zrl, zdn⟩
 ·rw [if_neg c2] at H
  have c2b0 : decide (a0 < 0) = false := decide_eq_false c2
  clear c2
  by_cases c3 : a0 ≤ 127
  ·rw [if_pos c3] at H
   have c3b0 : decide (a0 ≤ 127) = true := decide_eq_true c3
   clear c3
   obtain rfl := Option.some.inj H
   go_enter Tryz.func101, Tryz.ntmps101
   go_wp2
   go_ret
   exact ⟨zrl, zdn⟩
  ·rw [if_neg c3] at H
   have c3b0 : decide (a0 ≤ 127) = false := decide_eq_false c3
   clear c3
   by_cases c4 : a0 ≤ 2047
   ·rw [if_pos c4] at H
    have c4b0 : decide (a0 ≤ 2047) = true := decide_eq_true c4
    clear c4
    obtain rfl := Option.some.inj H
    go_enter Tryz.func101, Tryz.ntmps101
    go_wp2
    go_ret
    exact ⟨zrl, zdn⟩
   ·rw [if_neg c4] at H
    have c4b0 : decide (a0 ≤ 2047) = false := decide_eq_false c4
    clear c4
    have HC5 := Aside0.mk H
    clear H
    go_enter Tryz.func101, Tryz.ntmps101
    go_upto_region 7 with (fail)
    go_cut [12] (fun v12 wc => ∃ (kq : Nat) (x12_4 : Bool), v12 = .bool x12_4 ∧ Aside0 (utf8_RuneLen.j0 kq a0 x12_4 = some r) ∧ Aside0 (kq ≤ k) ∧ Drawn0 w wc)
    case first =>
     have H := HC5.out
     clear HC5
     by_cases c6 : 55296 ≤ a0
     ·rw [if_pos c6] at H
      have c6b0 : decide (55296 ≤ a0) = true := decide_eq_true c6
      clear c6
      (first | rw [c6b0] | (simp only [i64_w, i32_w]; rw [c6b0]) | skip)
      have H' := Aside0.mk H
      clear H
      go_wp2
      go_meet
      case rel => exact ⟨_, (decide (a0 ≤ 57343)), zrl, H', ⟨by first | omega | exact Nat.le_refl _⟩, zdn⟩
     ·rw [if_neg c6] at H
      have c6b0 : decide (55296 ≤ a0) = false := decide_eq_false c6
      clear c6
      (first | rw [c6b0] | (simp only [i64_w, i32_w]; rw [c6b0]) | skip)
      have H' := Aside0.mk H
      clear H
      go_wp2
      go_meet
      case rel => exact ⟨_, (false), zrl, H', ⟨by first | omega | exact Nat.le_refl _⟩, zdn⟩
    case rest =>
     clear HC5
     try clear c1
     try clear c2
     try clear c2b0
     try clear p2
     try clear c3
     try clear c3b0
     try clear c4
     try clear c4b0
     try clear c6
     try clear c6b0
     obtain ⟨kq, x12_4, rfl, HA, HJ4, ⟨mc4, rfl⟩⟩ := hcut
     cases kq with
     | zero => exact absurd HA.out (by simp [utf8_RuneLen.j0])
     | succ kj4 =>
      have H := HA.out
      clear HA
      simp only [utf8_RuneLen.j0] at H
      by_cases c7 : x12_4 = true
      ·subst c7
       have H1 : (some (-1)) = some r := by rw [if_pos rfl] at H; exact H
       clear H
       have H := H1
       clear H1
       obtain rfl := Option.some.inj H
       go_wp2
       go_ret
       exact ⟨zrl, zdn⟩
      ·replace c7 := Bool.eq_false_iff.mpr c7
       subst c7
       have H1 : (if a0 ≤ 65535 then (some 3) else (if a0 ≤ 1114111 then (some 4) else (some (-1)))) = some r := by rw [if_neg (show ¬ (false = true) by decide)] at H; exact H
       clear H
       have H := H1
       clear H1
       by_cases c8 : a0 ≤ 65535
       ·rw [if_pos c8] at H
        have c8b0 : decide (a0 ≤ 65535) = true := decide_eq_true c8
        clear c8
        obtain rfl := Option.some.inj H
        go_wp2
        go_ret
        exact ⟨zrl, zdn⟩
       ·rw [if_neg c8] at H
        have c8b0 : decide (a0 ≤ 65535) = false := decide_eq_false c8
        clear c8
        by_cases c9 : a0 ≤ 1114111
        ·rw [if_pos c9] at H
         have c9b0 : decide (a0 ≤ 1114111) = true := decide_eq_true c9
         clear c9
         obtain rfl := Option.some.inj H
         go_wp2
         go_ret
         exact ⟨zrl, zdn⟩
        ·rw [if_neg c9] at H
         have c9b0 : decide (a0 ≤ 1114111) = false := decide_eq_false c9
         clear c9
         obtain rfl := Option.some.inj H
         go_wp2
         go_ret
         exact ⟨zrl, zdn⟩
def strings_HasPrefix.f (a0 : ByteArray) (a1 : ByteArray) : Option (Bool) := (stringslite_HasPrefix.f a0 a1).bind fun t147 => (some t147)
set_option maxHeartbeats 8000000 in
set_option maxRecDepth 100000 in
theorem strings_HasPrefix.calls (a0 : ByteArray) (a1 : ByteArray) (r : Bool) (w : World) (h : strings_HasPrefix.f a0 a1 = some r) :
  Calls Tryz.prog 102 #[.string a0, .string a1] w fun e w' => e = .returned (.bool r) ∧ Drawn0 w w' := by
 have H : ((stringslite_HasPrefix.f a0 a1).bind fun t147 => (some t147)) = some r := h
 clear h
 replace H := Option.bind_eq_some_iff.mp H
 obtain ⟨t147, A30, H⟩ := H
 replace H : (some t147) = some r := H
 have A3 := Aside0.mk A30
 clear A30
 obtain rfl := Option.some.inj H
 go_enter Tryz.func102, Tryz.ntmps102
 go_wp2_with (first | ((with_reducible refine gate_callee (f := 149) rfl ?_); refine goesL_ (some 7) rfl rfl Tryz.func149 (by kernel_rfl) rfl #[.string a0, .string a1] rfl (by (try simp only [List.map_toArray, List.map_cons, List.map_nil]); first | done | rfl | (simp only [List.length_drop, List.length_take]; rfl)) ?_; (with_reducible refine (stringslite_HasPrefix.calls a0 a1 t147 _ A3.out).mono ?_); rintro e w' ⟨rfl, ⟨nd, rfl⟩⟩; refine ⟨_, rfl, ?_⟩))
 go_ret
 exact ⟨zrl, zdn⟩
def value_Chars.l0 : Nat → ByteArray → Nat → List ByteArray → Option (List ByteArray)
 | 0, _, _, _ => none
 | k + 1, s, pos, l => if pos < s.size then (if l.length < 8796093022208 then (value_Chars.l0 k s (pos + (Utf8.decode s pos).2) (l ++ [s.extract pos (pos + (Utf8.decode s pos).2)])) else none) else some l
def value_Chars.f (k : Nat) (a0 : ByteArray) : Option (List ByteArray) := if a0.size ≤ 140737488351232 then value_Chars.l0 k a0 0 [] else none
theorem value_Chars.mono_l : ∀ k, (∀ y0 y1 y2, LeO (value_Chars.l0 k y0 y1 y2) (value_Chars.l0 (k + 1) y0 y1 y2))
 | 0 => fun _ _ _ r h => by simp [value_Chars.l0] at h
 | k + 1 => by
  have ih0 := value_Chars.mono_l k
  ·intro y0 y1 y2
   unfold value_Chars.l0
   repeat' first
   | (with_reducible exact ih0 _ _ _)
   | (with_reducible exact LeO.refl _)
   | (with_reducible exact LeO.none _)
   | (with_reducible refine LeO.ite ?_ ?_)
theorem value_Chars.mono : ∀ a0 k, LeO (value_Chars.f k a0) (value_Chars.f (k + 1) a0) := by
 intro a0 k
 have ih0 := value_Chars.mono_l k
 unfold value_Chars.f
 repeat' first
   | (with_reducible exact ih0 _ _ _)
   | (with_reducible exact LeO.refl _)
   | (with_reducible exact LeO.none _)
   | (with_reducible refine LeO.ite ?_ ?_)
theorem value_Chars.rlen (r : Nat) (h1 : r < 55296 ∨ 57343 < r) (h2 : r ≤ 1114111) : utf8_RuneLen.f 5 (r : Int) = some (X.rl r : Int) := by
 unfold utf8_RuneLen.f X.rl
 rw [if_neg (by omega)]
 by_cases a : r ≤ 127
 ·rw [if_pos (by omega), if_pos a]; rfl
 rw [if_neg (by omega), if_neg a]
 by_cases b : r ≤ 2047
 ·rw [if_pos (by omega), if_pos b]; rfl
 rw [if_neg (by omega), if_neg b]
 by_cases c : r ≤ 65535
 ·rw [if_pos c]
  by_cases d : (55296 : Int) ≤ r
  ·rw [if_pos d, decide_eq_false (by omega)]
   simp only [utf8_RuneLen.j0]
   simp only [Bool.false_eq_true, if_false]
   rw [if_pos (by omega)]; rfl
  ·rw [if_neg d]
   simp only [utf8_RuneLen.j0]
   simp only [Bool.false_eq_true, if_false]
   rw [if_pos (by omega)]; rfl
 ·rw [if_neg c, if_pos (by omega), decide_eq_false (by omega)]
  simp only [utf8_RuneLen.j0]
  simp only [Bool.false_eq_true, if_false]
  rw [if_neg (by omega)]
  try rw [if_pos (by omega)]
  try rfl
theorem value_Chars.pre (s : ByteArray) (pos : Nat) (h : pos < s.size) : (X.fffd s pos → strings_HasPrefix.f (s.extract pos s.size) (⟨#[239, 191, 189]⟩ : ByteArray) = some true) ∧ (¬ X.fffd s pos → strings_HasPrefix.f (s.extract pos s.size) (⟨#[239, 191, 189]⟩ : ByteArray) = some false) := by
 unfold strings_HasPrefix.f stringslite_HasPrefix.f
 have e3 : (((⟨#[239, 191, 189]⟩ : ByteArray).size : Nat) : Int) = 3 := rfl
 have es : ((s.extract pos s.size).size : Int) = (s.size : Int) - pos := by rw [ByteArray.size_extract]; omega
 rw [e3, es]
 by_cases c : (s.size : Int) - pos ≥ 3
 ·rw [if_pos c, if_pos (by decide), if_pos (by omega)]
  rw [show ((3 : Int)).toNat = 3 from rfl, X.extract3 s pos (by omega)]
  have el : (⟨#[239, 191, 189]⟩ : ByteArray).toList = [239, 191, 189] := by rw [ByteArray.toList_eq]
  rw [el]
  refine ⟨fun hf => ?_, fun hf => ?_⟩
  ·obtain ⟨_, a, b, d⟩ := hf
   rw [a, b, d]
   rfl
  ·have : ([s.get! pos, s.get! (pos + 1), s.get! (pos + 2)] == [239, 191, 189]) = false := by
    rw [beq_eq_false_iff_ne]
    intro hq
    injection hq with a hq
    injection hq with b hq
    injection hq with d _
    exact hf ⟨by omega, a, b, d⟩
   rw [this]
   rfl
 ·rw [if_neg c]
  exact ⟨fun hf => absurd hf.1 (by omega), fun _ => rfl⟩
theorem value_Chars.info : (Tryz.prog.info? 9).map (fun i => (i.zero, i.size, i.bytes)) = some (some (.string ⟨#[]⟩), 1, 16) := by kernel_rfl
set_option maxHeartbeats 8000000 in
set_option maxRecDepth 100000 in
theorem value_Chars.calls (k : Nat) (a0 : ByteArray) (r : List ByteArray) (w : World) (h : value_Chars.f k a0 = some r) :
  Calls Tryz.prog 47 #[.string a0] w fun e w' => ∃ v0_ : Value, e = .returned (v0_) ∧ Kd.R Kd.string 9 w' w.heap.size (fun _ => True) v0_ r ∧ Below w.heap.size w w' := by
 unfold value_Chars.f at h
 by_cases c0 : a0.size ≤ 140737488351232
 rotate_left
 ·rw [if_neg c0] at h
  cases h
 rw [if_pos c0] at h
 have HZ := Aside0.mk c0
 clear c0
 have H' := Aside0.mk h
 clear h
 go_enter Tryz.func47, Tryz.ntmps47
 go_wp2
 go_loopg [3] k (fun kq v3 wr => ∃ (pos : Nat) (l : List ByteArray), Aside0 (value_Chars.l0 kq a0 pos l = some r) ∧ Aside0 (kq ≤ k) ∧ Aside0 (wr.heap[w.heap.size]? = some (.stringIter a0 pos)) ∧ Aside0 (Kd.R Kd.string 9 wr w.heap.size (fun k_ => k_ ≠ w.heap.size) v3 l) ∧ Aside0 (Below w.heap.size w wr))
 case atStart => exact ⟨0, [], H', ⟨Nat.le_refl _⟩, ⟨World.iter_heap w a0 0⟩, ⟨Kd.R_nil _ _ _ _ _⟩, ⟨(Below.refl _ _).alloc (Nat.le_refl _) _⟩⟩
 case round =>
  clear H'
  obtain ⟨pos, l, HA, HK, HI, HO, HB⟩ := hrel
  cases gk with
  | zero => exact absurd HA.out (by simp [value_Chars.l0])
  | succ k1 =>
   have H := HA.out
   clear HA
   simp only [value_Chars.l0] at H
   by_cases hp : pos < a0.size
   ·rw [if_pos hp] at H
    by_cases cl : l.length < 8796093022208
    rotate_left
    ·rw [if_neg cl] at H
     cases H
    rw [if_pos cl] at H
    have HLm := Aside0.mk cl
    clear cl
    have hnx : ∀ ty, (Instr.next (.pointer (some ⟨w.heap.size, 0, none⟩)) true ty).run Tryz.prog wr = _ := fun ty => Lib.run_next_any_at wr w.heap.size a0 pos ty HI.out hp
    obtain ⟨d1, d2, d3, d4, d5, d6⟩ := X.dec_facts a0 pos hp
    have HP := value_Chars.pre a0 pos hp
    have hit2 := Lib.iterAt_heap wr w.heap.size a0 pos (pos + (Utf8.decode a0 pos).2) HI.out
    have hb2 := Lib.below_iterAt HB.out (k := w.heap.size) (Nat.le_refl _) a0 (pos + (Utf8.decode a0 pos).2)
    have ho2 := Kd.R_step (w1 := wr.iterAt w.heap.size a0 (pos + (Utf8.decode a0 pos).2)) HO.out (fun k_ hk_ hl_ => Lib.iterAt_other _ _ _ _ _ (by first | exact hk_ | exact Ne.symm hk_))
    have hr := value_Chars.rlen (Utf8.decode a0 pos).1 d3 d4
    have hlt0 : w.heap.size < (wr.iterAt w.heap.size a0 (pos + (Utf8.decode a0 pos).2)).heap.size := by
     rcases Nat.lt_or_ge w.heap.size (wr.iterAt w.heap.size a0 (pos + (Utf8.decode a0 pos).2)).heap.size with hh | hh
     ·exact hh
     ·rw [Array.getElem?_eq_none hh] at hit2; cases hit2
    generalize (Utf8.decode a0 pos).1 = ru at hnx d3 d4 d5 d6 hr
    generalize (Utf8.decode a0 pos).2 = wi at hnx d1 d2 d5 d6 hit2 hb2 ho2 H hlt0
    generalize wr.iterAt w.heap.size a0 (pos + wi) = W1 at hnx hit2 hb2 ho2 hlt0
    obtain ⟨y, hy⟩ : ∃ y_ : List ByteArray, y_ = l ++ [a0.extract pos (pos + wi)] := ⟨_, rfl⟩
    rw [← hy] at H
    have HY := Aside0.mk hy
    have H' := Aside0.mk H
    have HI2 := Aside0.mk hit2
    have HB2 := Aside0.mk hb2
    have HO2 := Aside0.mk ho2
    have HR := Aside0.mk hr
    have HLT := Aside0.mk hlt0
    clear hy H hit2 hb2 ho2 hr hlt0 HI HO HB
    have h0 : (0 : Int) ≤ (pos : Int) := by omega
    have hz9 : (a0.size : Int) ≤ 140737488351232 := by have := HZ.out; omega
    have hq0 : (pos : Int) ≤ ((pos : Int) + (wi : Int)) := by omega
    have hq1 : ((pos : Int) + (wi : Int)) ≤ (a0.size : Int) := by omega
    have hq2 : (pos : Int) ≤ (a0.size : Int) := by omega
    by_cases e : ru = 65533
    ·subst e
     have e1 : X.rl 65533 = 3 := by decide
     rw [e1] at HR
     clear e1
     rcases d6 rfl with ⟨hf, hw⟩ | ⟨hf, hw⟩
     ·subst hw
      have HPP := Aside0.mk (HP.1 hf)
      have hq3 : (pos : Int) ≤ (pos : Int) + 3 := by omega
      have hq4 : (pos : Int) + 3 ≤ (a0.size : Int) := by omega
      clear HP d5 d6 hf d3 d4
      go_wp2_with (first
       | (go_at_call 101; refine (utf8_RuneLen.calls 5 _ _ _ HR.out).mono ?_; rintro e w' ⟨rfl, ⟨nd, rfl⟩⟩)
       | (go_at_call 102; refine (strings_HasPrefix.calls _ _ _ _ HPP.out).mono ?_; rintro e w' ⟨rfl, ⟨nd2, rfl⟩⟩)
       | ((with_reducible refine gate_builtin (b := .append) (xs := #[.tmp 24, .tmp 31]) rfl ?_); at_builtin; refine Kd.R_append Kd.string (w0 := w) w.heap.size rfl (.tmp 24) (.tmp 31) 51 9 (.string ⟨#[]⟩) 16 rfl Tryz.underlying51 value_Chars.info rfl (by decide) (by omega) u3 l (a0.extract pos (pos + 3)) [.string (a0.extract pos (pos + 3))] (fun k_ => k_ ≠ w.heap.size) (fun _ => False) rfl rfl ?aP (fun _ hk => hk.elim) ?aF ?aO ?aB ?aS ?aL ?_; (case aP => exact rfl); (case aB => exact (by repeat (first | (with_reducible first | exact HB2.out | apply below_alloc | apply pw_below_drewN | apply below_drew1) | exact HB2.out))); (case aF => exact (fun k_ hk_ => by have h1_ := HLT.out; simp at hk_; omega)); (case aO => exact (by (with_reducible repeat (first | apply Kd.R_alloc | apply Kd.R_drewN | apply Kd.R_drew)); exact HO2.out)); (case aS => exact (below_size (by repeat (first | (with_reducible first | exact HB2.out | apply below_alloc | apply pw_below_drewN | apply below_drew1) | exact HB2.out)))); (case aL => have := HLm.out; omega); intro v9 w9 ho hb hg hat; rw [← HY.out] at ho; have hI9 := (hg.block w.heap.size (by have h1_ := HLT.out; simp; omega) (fun e_ => (Kd.R_away HO2.out (fun _ h_ => h_)) e_)).trans HI2.out; have HB9 := Aside0.mk hb; have HO9 := Aside0.mk ho; have HI9 := Aside0.mk hI9; clear ho hb hg hat hI9))
      go_roundg k1
      case measure => have := HK.out; omega
      case rel => exact ⟨pos + 3, y, H', ⟨by have := HK.out; omega⟩, HI9, HO9, HB9⟩
     ·subst hw
      have HPP := Aside0.mk (HP.2 hf)
      have hq3 : (pos : Int) ≤ (pos : Int) + 1 := by omega
      have hq4 : (pos : Int) + 1 ≤ (a0.size : Int) := by omega
      clear HP d5 d6 hf d3 d4
      go_wp2_with (first
       | (go_at_call 101; refine (utf8_RuneLen.calls 5 _ _ _ HR.out).mono ?_; rintro e w' ⟨rfl, ⟨nd, rfl⟩⟩)
       | (go_at_call 102; refine (strings_HasPrefix.calls _ _ _ _ HPP.out).mono ?_; rintro e w' ⟨rfl, ⟨nd2, rfl⟩⟩)
       | ((with_reducible refine gate_builtin (b := .append) (xs := #[.tmp 24, .tmp 31]) rfl ?_); at_builtin; refine Kd.R_append Kd.string (w0 := w) w.heap.size rfl (.tmp 24) (.tmp 31) 51 9 (.string ⟨#[]⟩) 16 rfl Tryz.underlying51 value_Chars.info rfl (by decide) (by omega) u3 l (a0.extract pos (pos + 1)) [.string (a0.extract pos (pos + 1))] (fun k_ => k_ ≠ w.heap.size) (fun _ => False) rfl rfl ?aP (fun _ hk => hk.elim) ?aF ?aO ?aB ?aS ?aL ?_; (case aP => exact rfl); (case aB => exact (by repeat (first | (with_reducible first | exact HB2.out | apply below_alloc | apply pw_below_drewN | apply below_drew1) | exact HB2.out))); (case aF => exact (fun k_ hk_ => by have h1_ := HLT.out; simp at hk_; omega)); (case aO => exact (by (with_reducible repeat (first | apply Kd.R_alloc | apply Kd.R_drewN | apply Kd.R_drew)); exact HO2.out)); (case aS => exact (below_size (by repeat (first | (with_reducible first | exact HB2.out | apply below_alloc | apply pw_below_drewN | apply below_drew1) | exact HB2.out)))); (case aL => have := HLm.out; omega); intro v9 w9 ho hb hg hat; rw [← HY.out] at ho; have hI9 := (hg.block w.heap.size (by have h1_ := HLT.out; simp; omega) (fun e_ => (Kd.R_away HO2.out (fun _ h_ => h_)) e_)).trans HI2.out; have HB9 := Aside0.mk hb; have HO9 := Aside0.mk ho; have HI9 := Aside0.mk hI9; clear ho hb hg hat hI9))
      go_roundg k1
      case measure => have := HK.out; omega
      case rel => exact ⟨pos + 1, y, H', ⟨by have := HK.out; omega⟩, HI9, HO9, HB9⟩
    ·have hw := d5 e
     have en : ((ru : Int) == 65533) = false := beq_eq_false_iff_ne.mpr (by omega)
     have hrl : X.rl ru = wi := hw.symm
     rw [hrl] at HR
     clear HP d5 d6 hw hrl d3 d4 e
     go_wp2_with (first
      | (go_at_call 101; refine (utf8_RuneLen.calls 5 _ _ _ HR.out).mono ?_; rintro e w' ⟨rfl, ⟨nd, rfl⟩⟩)
      | ((with_reducible refine gate_builtin (b := .append) (xs := #[.tmp 24, .tmp 31]) rfl ?_); at_builtin; refine Kd.R_append Kd.string (w0 := w) w.heap.size rfl (.tmp 24) (.tmp 31) 51 9 (.string ⟨#[]⟩) 16 rfl Tryz.underlying51 value_Chars.info rfl (by decide) (by omega) u3 l (a0.extract pos (pos + wi)) [.string (a0.extract pos (pos + wi))] (fun k_ => k_ ≠ w.heap.size) (fun _ => False) rfl rfl ?aP (fun _ hk => hk.elim) ?aF ?aO ?aB ?aS ?aL ?_; (case aP => exact rfl); (case aB => exact (by repeat (first | (with_reducible first | exact HB2.out | apply below_alloc | apply pw_below_drewN | apply below_drew1) | exact HB2.out))); (case aF => exact (fun k_ hk_ => by have h1_ := HLT.out; simp at hk_; omega)); (case aO => exact (by (with_reducible repeat (first | apply Kd.R_alloc | apply Kd.R_drewN | apply Kd.R_drew)); exact HO2.out)); (case aS => exact (below_size (by repeat (first | (with_reducible first | exact HB2.out | apply below_alloc | apply pw_below_drewN | apply below_drew1) | exact HB2.out)))); (case aL => have := HLm.out; omega); intro v9 w9 ho hb hg hat; rw [← HY.out] at ho; have hI9 := (hg.block w.heap.size (by have h1_ := HLT.out; simp; omega) (fun e_ => (Kd.R_away HO2.out (fun _ h_ => h_)) e_)).trans HI2.out; have HB9 := Aside0.mk hb; have HO9 := Aside0.mk ho; have HI9 := Aside0.mk hI9; clear ho hb hg hat hI9))
     go_roundg k1
     case measure => have := HK.out; omega
     case rel => exact ⟨pos + wi, y, H', ⟨by have := HK.out; omega⟩, HI9, HO9, HB9⟩
   ·rw [if_neg hp] at H
    obtain rfl := Option.some.inj H
    have hnx : ∀ ty, (Instr.next (.pointer (some ⟨w.heap.size, 0, none⟩)) true ty).run Tryz.prog wr = _ := fun ty => Lib.run_next_end_at wr w.heap.size a0 pos ty HI.out hp
    go_wp2
    go_ret
    exact ⟨_, rfl, Kd.R_mono HO.out (fun _ _ => trivial), HB.out⟩
set_option maxHeartbeats 4000000 in
set_option maxRecDepth 100000 in
theorem value_mapped.callsUpper (g : Int → Int) (hF : ∀ (c : Int) (w : World), 0 ≤ c → c ≤ 255 → Calls Tryz.prog 105 #[.int .u8 c] w fun e w' => e = .returned (.int .u8 (g c)) ∧ w = w') (s : ByteArray) (hs : s.size ≤ 9223372036854775807) (w : World) :
  Calls Tryz.prog 104 #[.string s, .func (.func 105) #[] #[]] w fun e w' => e = .returned (.string (X.mapS g s)) ∧ Below w.heap.size w w' := by
 have hcv := Lib.run_convert_string_bytes (P := Tryz.prog) w 9 87 5 s Tryz.underlying9 Tryz.underlying87 Tryz.underlying5
 have HN : Aside0 (X.BL (Lib.bytesWorld w 5 s) w.heap.size 5 (bytesOf s)) := ⟨X.BL.new _ _ _⟩
 have HB0 : Aside0 (Below w.heap.size w (Lib.bytesWorld w 5 s)) := ⟨X.below_bytes _ _ _⟩
 have HL : Aside0 ((bytesOf s).length = s.size) := ⟨bytesOf_length s⟩
 generalize Lib.bytesWorld w 5 s = w0 at hcv HN HB0
 generalize grownCap w s.size 0 5 = cp at hcv
 generalize hA : bytesOf s = A at HN HL
 have HA := Aside0.mk hA
 clear hA
 go_enter Tryz.func104, Tryz.ntmps104
 go_wp2
 go_loopw [11] (fun v wr => ∃ k : Nat, k ≤ s.size ∧ v = .int .i64 (k : Int) ∧ Aside0 (X.BL wr w.heap.size 5 ((A.take k).map g ++ A.drop k)) ∧ Aside0 (Below w.heap.size w wr)) (fun v _ => s.size - (intOf v).toNat)
 case atStart => exact ⟨0, Nat.zero_le _, rfl, by simpa using HN, HB0⟩
 case round =>
  clear hcv HN HB0
  obtain ⟨k, hk, rfl, HC, HB⟩ := hrel
  by_cases hlt : k < s.size
  ·have hkA : k < A.length := by rw [HL.out]; exact hlt
   obtain ⟨hml, hmg⟩ := X.map_at g A k hkA
   have hkL : k < ((A.take k).map g ++ A.drop k).length := by rw [hml]; exact hkA
   have hcell := HC.out.cell hkL
   rw [hmg hkL] at hcell
   have hfr := HC.out.frozen hkL
   have HS := Aside0.mk (HC.out.set_ hkL (g (A[k]'hkA)))
   have HS2 : Aside0 (X.BL (wr.setCell ⟨w.heap.size, k, none⟩ (.int .u8 (g (A[k]'hkA)))) w.heap.size 5 ((A.take (k + 1)).map g ++ A.drop (k + 1))) := ⟨by rw [← X.map_step g A k hkA]; exact HS.out⟩
   have hr : 0 ≤ A[k]'hkA ∧ A[k]'hkA ≤ 255 := by
    have := HA.out
    subst this
    simp [bytesOf]
    have := (s.data[k]).toNat_lt
    omega
   have hr0 := Aside0.mk hr.1
   have hr1 := Aside0.mk hr.2
   clear hr HS hml hmg
   generalize A[k]'hkA = c at hcell HS2 hr0 hr1
   clear hkA hkL
   have hz : ((k : Int) + 1) ≤ 9223372036854775807 := by omega
   go_wp2_with (go_at_call 105; refine (hF _ _ hr0.out hr1.out).mono ?_; rintro e w2 ⟨rfl, rfl⟩)
   go_roundw
   case rel => exact ⟨k + 1, by omega, by go_num, HS2, ⟨HB.out.setCell (Nat.le_refl _) _⟩⟩
   case measure => simp [intOf]; omega
  ·obtain rfl : k = s.size := by omega
   have hb := HC.out
   rw [List.take_of_length_le (by rw [HL.out]; exact Nat.le_refl _), List.drop_eq_nil_of_le (by rw [HL.out]; exact Nat.le_refl _), List.append_nil] at hb
   have hcv := hb.str (P := Tryz.prog) 87 5 9 Tryz.underlying87 Tryz.underlying5 Tryz.underlying9 cp
   rw [List.length_map, HL.out, ← HA.out] at hcv
   clear hb
   go_wp2
   go_ret
   exact ⟨rfl, HB.out⟩
set_option maxHeartbeats 4000000 in
set_option maxRecDepth 100000 in
theorem value_mapped.callsLower (g : Int → Int) (hF : ∀ (c : Int) (w : World), 0 ≤ c → c ≤ 255 → Calls Tryz.prog 106 #[.int .u8 c] w fun e w' => e = .returned (.int .u8 (g c)) ∧ w = w') (s : ByteArray) (hs : s.size ≤ 9223372036854775807) (w : World) :
  Calls Tryz.prog 104 #[.string s, .func (.func 106) #[] #[]] w fun e w' => e = .returned (.string (X.mapS g s)) ∧ Below w.heap.size w w' := by
 have hcv := Lib.run_convert_string_bytes (P := Tryz.prog) w 9 87 5 s Tryz.underlying9 Tryz.underlying87 Tryz.underlying5
 have HN : Aside0 (X.BL (Lib.bytesWorld w 5 s) w.heap.size 5 (bytesOf s)) := ⟨X.BL.new _ _ _⟩
 have HB0 : Aside0 (Below w.heap.size w (Lib.bytesWorld w 5 s)) := ⟨X.below_bytes _ _ _⟩
 have HL : Aside0 ((bytesOf s).length = s.size) := ⟨bytesOf_length s⟩
 generalize Lib.bytesWorld w 5 s = w0 at hcv HN HB0
 generalize grownCap w s.size 0 5 = cp at hcv
 generalize hA : bytesOf s = A at HN HL
 have HA := Aside0.mk hA
 clear hA
 go_enter Tryz.func104, Tryz.ntmps104
 go_wp2
 go_loopw [11] (fun v wr => ∃ k : Nat, k ≤ s.size ∧ v = .int .i64 (k : Int) ∧ Aside0 (X.BL wr w.heap.size 5 ((A.take k).map g ++ A.drop k)) ∧ Aside0 (Below w.heap.size w wr)) (fun v _ => s.size - (intOf v).toNat)
 case atStart => exact ⟨0, Nat.zero_le _, rfl, by simpa using HN, HB0⟩
 case round =>
  clear hcv HN HB0
  obtain ⟨k, hk, rfl, HC, HB⟩ := hrel
  by_cases hlt : k < s.size
  ·have hkA : k < A.length := by rw [HL.out]; exact hlt
   obtain ⟨hml, hmg⟩ := X.map_at g A k hkA
   have hkL : k < ((A.take k).map g ++ A.drop k).length := by rw [hml]; exact hkA
   have hcell := HC.out.cell hkL
   rw [hmg hkL] at hcell
   have hfr := HC.out.frozen hkL
   have HS := Aside0.mk (HC.out.set_ hkL (g (A[k]'hkA)))
   have HS2 : Aside0 (X.BL (wr.setCell ⟨w.heap.size, k, none⟩ (.int .u8 (g (A[k]'hkA)))) w.heap.size 5 ((A.take (k + 1)).map g ++ A.drop (k + 1))) := ⟨by rw [← X.map_step g A k hkA]; exact HS.out⟩
   have hr : 0 ≤ A[k]'hkA ∧ A[k]'hkA ≤ 255 := by
    have := HA.out
    subst this
    simp [bytesOf]
    have := (s.data[k]).toNat_lt
    omega
   have hr0 := Aside0.mk hr.1
   have hr1 := Aside0.mk hr.2
   clear hr HS hml hmg
   generalize A[k]'hkA = c at hcell HS2 hr0 hr1
   clear hkA hkL
   have hz : ((k : Int) + 1) ≤ 9223372036854775807 := by omega
   go_wp2_with (go_at_call 106; refine (hF _ _ hr0.out hr1.out).mono ?_; rintro e w2 ⟨rfl, rfl⟩)
   go_roundw
   case rel => exact ⟨k + 1, by omega, by go_num, HS2, ⟨HB.out.setCell (Nat.le_refl _) _⟩⟩
   case measure => simp [intOf]; omega
  ·obtain rfl : k = s.size := by omega
   have hb := HC.out
   rw [List.take_of_length_le (by rw [HL.out]; exact Nat.le_refl _), List.drop_eq_nil_of_le (by rw [HL.out]; exact Nat.le_refl _), List.append_nil] at hb
   have hcv := hb.str (P := Tryz.prog) 87 5 9 Tryz.underlying87 Tryz.underlying5 Tryz.underlying9 cp
   rw [List.length_map, HL.out, ← HA.out] at hcv
   clear hb
   go_wp2
   go_ret
   exact ⟨rfl, HB.out⟩
def value_Lower_1.f (a0 : Int) : Option (Int) := if a0 ≥ 65 then (if a0 ≤ 90 then (some ((((a0 - 65) % 256) + 97) % 256)) else (some a0)) else (some a0)
set_option maxHeartbeats 8000000 in
set_option maxRecDepth 100000 in
theorem value_Lower_1.calls (a0 : Int) (r : Int) (w : World) (h : value_Lower_1.f a0 = some r) :
  Calls Tryz.prog 106 #[.int .u8 a0] w fun e w' => e = .returned (.int .u8 r) ∧ Drawn0 w w' := by
 have H : (if a0 ≥ 65 then (if a0 ≤ 90 then (some ((((a0 - 65) % 256) + 97) % 256)) else (some a0)) else (some a0)) = some r := h
 clear h
 by_cases c2 : a0 ≥ 65
 ·rw [if_pos c2] at H
  have c2b0 : decide (65 ≤ a0) = true := decide_eq_true c2
  clear c2
  by_cases c3 : a0 ≤ 90
  ·rw [if_pos c3] at H
   have c3b0 : decide (a0 ≤ 90) = true := decide_eq_true c3
   clear c3
   obtain rfl := Option.some.inj H
   go_enter Tryz.func106, Tryz.ntmps106
   go_wp2
   go_ret
   exact ⟨zrl, zdn⟩
  ·rw [if_neg c3] at H
   have c3b0 : decide (a0 ≤ 90) = false := decide_eq_false c3
   clear c3
   obtain rfl := Option.some.inj H
   go_enter Tryz.func106, Tryz.ntmps106
   go_wp2
   go_ret
   exact ⟨zrl, zdn⟩
 ·rw [if_neg c2] at H
  have c2b0 : decide (65 ≤ a0) = false := decide_eq_false c2
  clear c2
  obtain rfl := Option.some.inj H
  go_enter Tryz.func106, Tryz.ntmps106
  go_wp2
  go_ret
  exact ⟨zrl, zdn⟩
def value_Lower.f (a0 : ByteArray) : Option (ByteArray) := if a0.size ≤ 9223372036854775807 then some (X.mapS X.gLower a0) else none
set_option maxRecDepth 100000 in
theorem value_Lower.one (c : Int) (w : World) (h0 : 0 ≤ c) (h1 : c ≤ 255) : Calls Tryz.prog 106 #[.int .u8 c] w fun e w' => e = .returned (.int .u8 (X.gLower c)) ∧ w = w' := by
 unfold X.gLower
 by_cases c0 : 65 ≤ c
 ·have c0b : decide (c ≥ 65) = true := decide_eq_true c0
  by_cases c1 : c ≤ 90
  ·have c1b : decide (c ≤ 90) = true := decide_eq_true c1
   rw [if_pos ⟨c0, c1⟩]
   go_enter Tryz.func106, Tryz.ntmps106
   go_wp2
   go_ret
   exact ⟨by rw [show c + 32 = c - 65 + 97 by omega]; rfl, rfl⟩
  ·have c1b : decide (c ≤ 90) = false := decide_eq_false c1
   rw [if_neg (fun h => c1 h.2)]
   go_enter Tryz.func106, Tryz.ntmps106
   go_wp2
   go_ret
   exact ⟨rfl, rfl⟩
 ·have c0b : decide (c ≥ 65) = false := decide_eq_false c0
  rw [if_neg (fun h => c0 h.1)]
  go_enter Tryz.func106, Tryz.ntmps106
  go_wp2
  go_ret
  exact ⟨rfl, rfl⟩
theorem value_Lower.calls (a0 : ByteArray) (r : ByteArray) (w : World) (h : value_Lower.f a0 = some r) :
  Calls Tryz.prog 50 #[.string a0] w fun e w' => e = .returned (.string r) ∧ Below w.heap.size w w' := by
 unfold value_Lower.f at h
 by_cases c0 : a0.size ≤ 9223372036854775807
 ·rw [if_pos c0] at h
  have H0 := Aside0.mk c0
  clear c0
  obtain rfl := Option.some.inj h
  have HM := value_mapped.callsLower X.gLower (value_Lower.one) a0 H0.out
  go_enter Tryz.func50, Tryz.ntmps50
  go_wp2_with (go_at_call 104; refine (HM _).mono ?_; rintro e w1 ⟨rfl, hb⟩)
  go_ret
  exact ⟨rfl, hb⟩
 ·rw [if_neg c0] at h
  cases h
def value_Upper_1.f (a0 : Int) : Option (Int) := if a0 ≥ 97 then (if a0 ≤ 122 then (some ((((a0 - 97) % 256) + 65) % 256)) else (some a0)) else (some a0)
set_option maxHeartbeats 8000000 in
set_option maxRecDepth 100000 in
theorem value_Upper_1.calls (a0 : Int) (r : Int) (w : World) (h : value_Upper_1.f a0 = some r) :
  Calls Tryz.prog 105 #[.int .u8 a0] w fun e w' => e = .returned (.int .u8 r) ∧ Drawn0 w w' := by
 have H : (if a0 ≥ 97 then (if a0 ≤ 122 then (some ((((a0 - 97) % 256) + 65) % 256)) else (some a0)) else (some a0)) = some r := h
 clear h
 by_cases c2 : a0 ≥ 97
 ·rw [if_pos c2] at H
  have c2b0 : decide (97 ≤ a0) = true := decide_eq_true c2
  clear c2
  by_cases c3 : a0 ≤ 122
  ·rw [if_pos c3] at H
   have c3b0 : decide (a0 ≤ 122) = true := decide_eq_true c3
   clear c3
   obtain rfl := Option.some.inj H
   go_enter Tryz.func105, Tryz.ntmps105
   go_wp2
   go_ret
   exact ⟨zrl, zdn⟩
  ·rw [if_neg c3] at H
   have c3b0 : decide (a0 ≤ 122) = false := decide_eq_false c3
   clear c3
   obtain rfl := Option.some.inj H
   go_enter Tryz.func105, Tryz.ntmps105
   go_wp2
   go_ret
   exact ⟨zrl, zdn⟩
 ·rw [if_neg c2] at H
  have c2b0 : decide (97 ≤ a0) = false := decide_eq_false c2
  clear c2
  obtain rfl := Option.some.inj H
  go_enter Tryz.func105, Tryz.ntmps105
  go_wp2
  go_ret
  exact ⟨zrl, zdn⟩
def value_Upper.f (a0 : ByteArray) : Option (ByteArray) := if a0.size ≤ 9223372036854775807 then some (X.mapS X.gUpper a0) else none
set_option maxRecDepth 100000 in
theorem value_Upper.one (c : Int) (w : World) (h0 : 0 ≤ c) (h1 : c ≤ 255) : Calls Tryz.prog 105 #[.int .u8 c] w fun e w' => e = .returned (.int .u8 (X.gUpper c)) ∧ w = w' := by
 unfold X.gUpper
 by_cases c0 : 97 ≤ c
 ·have c0b : decide (c ≥ 97) = true := decide_eq_true c0
  by_cases c1 : c ≤ 122
  ·have c1b : decide (c ≤ 122) = true := decide_eq_true c1
   rw [if_pos ⟨c0, c1⟩]
   go_enter Tryz.func105, Tryz.ntmps105
   go_wp2
   go_ret
   exact ⟨by rw [show c - 32 = c - 97 + 65 by omega]; rfl, rfl⟩
  ·have c1b : decide (c ≤ 122) = false := decide_eq_false c1
   rw [if_neg (fun h => c1 h.2)]
   go_enter Tryz.func105, Tryz.ntmps105
   go_wp2
   go_ret
   exact ⟨rfl, rfl⟩
 ·have c0b : decide (c ≥ 97) = false := decide_eq_false c0
  rw [if_neg (fun h => c0 h.1)]
  go_enter Tryz.func105, Tryz.ntmps105
  go_wp2
  go_ret
  exact ⟨rfl, rfl⟩
theorem value_Upper.calls (a0 : ByteArray) (r : ByteArray) (w : World) (h : value_Upper.f a0 = some r) :
  Calls Tryz.prog 49 #[.string a0] w fun e w' => e = .returned (.string r) ∧ Below w.heap.size w w' := by
 unfold value_Upper.f at h
 by_cases c0 : a0.size ≤ 9223372036854775807
 ·rw [if_pos c0] at h
  have H0 := Aside0.mk c0
  clear c0
  obtain rfl := Option.some.inj h
  have HM := value_mapped.callsUpper X.gUpper (value_Upper.one) a0 H0.out
  go_enter Tryz.func49, Tryz.ntmps49
  go_wp2_with (go_at_call 104; refine (HM _).mono ?_; rintro e w1 ⟨rfl, hb⟩)
  go_ret
  exact ⟨rfl, hb⟩
 ·rw [if_neg c0] at h
  cases h
def value_word.f (a0 : ByteArray) : Option (Bool × Bool) := (value_Upper.f a0).bind fun t148 => (if t148.toList = ([84, 82, 85, 69] : List UInt8) then (some (true, true)) else (if t148.toList = ([70, 65, 76, 83, 69] : List UInt8) then (some (false, true)) else (some (false, false))))
set_option maxHeartbeats 8000000 in
set_option maxRecDepth 100000 in
theorem value_word.calls (a0 : ByteArray) (r1 : Bool) (r2 : Bool) (w : World) (h : value_word.f a0 = some (r1, r2)) :
  Calls Tryz.prog 164 #[.string a0] w fun e w' => e = .returned (.tuple #[.bool r1, .bool r2]) ∧ Below w.heap.size w w' := by
 have HB := Aside0.mk (Below.refl w.heap.size w)
 have H : ((value_Upper.f a0).bind fun t148 => (if t148.toList = ([84, 82, 85, 69] : List UInt8) then (some (true, true)) else (if t148.toList = ([70, 65, 76, 83, 69] : List UInt8) then (some (false, true)) else (some (false, false))))) = some (r1, r2) := h
 clear h
 replace H := Option.bind_eq_some_iff.mp H
 obtain ⟨t148, A20, H⟩ := H
 replace H : (if t148.toList = ([84, 82, 85, 69] : List UInt8) then (some (true, true)) else (if t148.toList = ([70, 65, 76, 83, 69] : List UInt8) then (some (false, true)) else (some (false, false)))) = some (r1, r2) := H
 have A2 := Aside0.mk A20
 clear A20
 by_cases c3 : t148.toList = ([84, 82, 85, 69] : List UInt8)
 ·rw [if_pos c3] at H
  have c3b0 : (t148.toList == ([84, 82, 85, 69] : List UInt8)) = true := beq_iff_eq.mpr c3
  have c3b1 : (t148.toList != ([84, 82, 85, 69] : List UInt8)) = false := bne_eq_false_iff_eq.mpr c3
  clear c3
  simp only [Option.some.injEq, Prod.mk.injEq] at H
  obtain ⟨rfl, rfl⟩ := H
  go_enter Tryz.func164, Tryz.ntmps164
  go_wp2_with (first | ((with_reducible refine gate_callee (f := 49) rfl ?_); refine goesL_ (some 5) rfl rfl Tryz.func49 (by kernel_rfl) rfl #[.string a0] rfl (by (try simp only [List.map_toArray, List.map_cons, List.map_nil]); first | done | rfl | (simp only [List.length_drop, List.length_take]; rfl)) ?_; (with_reducible refine (value_Upper.calls a0 t148 _ A2.out).mono ?_); rintro e w4 ⟨rfl, hb⟩; refine ⟨_, rfl, ?_⟩; have n0_ := Aside0.mk (below_step (by repeat (first | (with_reducible first | exact HB.out | apply below_alloc | apply pw_below_drewN | apply below_drew1) | exact HB.out)) hb); clear HB; have HB := n0_; clear n0_; (try clear hb); (try clear hb2); (try clear hk); (try clear hi)))
  go_ret2
  exact ⟨by first | rfl | (simp [errW_none, errW_some] <;> rfl) | (simp [*, errW_none, errW_some] <;> rfl), by repeat (first | (with_reducible first | exact HB.out | apply below_alloc | apply pw_below_drewN | apply below_drew1) | exact HB.out)⟩
 ·rw [if_neg c3] at H
  have c3b0 : (t148.toList == ([84, 82, 85, 69] : List UInt8)) = false := beq_eq_false_iff_ne.mpr c3
  have c3b1 : (t148.toList != ([84, 82, 85, 69] : List UInt8)) = true := bne_iff_ne.mpr c3
  by_cases c5 : t148.toList = ([70, 65, 76, 83, 69] : List UInt8)
  ·rw [if_pos c5] at H
   have c5b0 : (t148.toList == ([70, 65, 76, 83, 69] : List UInt8)) = true := beq_iff_eq.mpr c5
   have c5b1 : (t148.toList != ([70, 65, 76, 83, 69] : List UInt8)) = false := bne_eq_false_iff_eq.mpr c5
   clear c5
   simp only [Option.some.injEq, Prod.mk.injEq] at H
   obtain ⟨rfl, rfl⟩ := H
   go_enter Tryz.func164, Tryz.ntmps164
   go_wp2_with (first | ((with_reducible refine gate_callee (f := 49) rfl ?_); refine goesL_ (some 5) rfl rfl Tryz.func49 (by kernel_rfl) rfl #[.string a0] rfl (by (try simp only [List.map_toArray, List.map_cons, List.map_nil]); first | done | rfl | (simp only [List.length_drop, List.length_take]; rfl)) ?_; (with_reducible refine (value_Upper.calls a0 t148 _ A2.out).mono ?_); rintro e w6 ⟨rfl, hb⟩; refine ⟨_, rfl, ?_⟩; have n0_ := Aside0.mk (below_step (by repeat (first | (with_reducible first | exact HB.out | apply below_alloc | apply pw_below_drewN | apply below_drew1) | exact HB.out)) hb); clear HB; have HB := n0_; clear n0_; (try clear hb); (try clear hb2); (try clear hk); (try clear hi)))
   go_ret2
   exact ⟨by first | rfl | (simp [errW_none, errW_some] <;> rfl) | (simp [*, errW_none, errW_some] <;> rfl), by repeat (first | (with_reducible first | exact HB.out | apply below_alloc | apply pw_below_drewN | apply below_drew1) | exact HB.out)⟩
  ·rw [if_neg c5] at H
   have c5b0 : (t148.toList == ([70, 65, 76, 83, 69] : List UInt8)) = false := beq_eq_false_iff_ne.mpr c5
   have c5b1 : (t148.toList != ([70, 65, 76, 83, 69] : List UInt8)) = true := bne_iff_ne.mpr c5
   simp only [Option.some.injEq, Prod.mk.injEq] at H
   obtain ⟨rfl, rfl⟩ := H
   go_enter Tryz.func164, Tryz.ntmps164
   go_wp2_with (first | ((with_reducible refine gate_callee (f := 49) rfl ?_); refine goesL_ (some 5) rfl rfl Tryz.func49 (by kernel_rfl) rfl #[.string a0] rfl (by (try simp only [List.map_toArray, List.map_cons, List.map_nil]); first | done | rfl | (simp only [List.length_drop, List.length_take]; rfl)) ?_; (with_reducible refine (value_Upper.calls a0 t148 _ A2.out).mono ?_); rintro e w7 ⟨rfl, hb⟩; refine ⟨_, rfl, ?_⟩; have n0_ := Aside0.mk (below_step (by repeat (first | (with_reducible first | exact HB.out | apply below_alloc | apply pw_below_drewN | apply below_drew1) | exact HB.out)) hb); clear HB; have HB := n0_; clear n0_; (try clear hb); (try clear hb2); (try clear hk); (try clear hi)))
   go_ret2
   exact ⟨by first | rfl | (simp [errW_none, errW_some] <;> rfl) | (simp [*, errW_none, errW_some] <;> rfl), by repeat (first | (with_reducible first | exact HB.out | apply below_alloc | apply pw_below_drewN | apply below_drew1) | exact HB.out)⟩
end Go.Proofs.YtcbknemdidehlaaGreatDoor.P
