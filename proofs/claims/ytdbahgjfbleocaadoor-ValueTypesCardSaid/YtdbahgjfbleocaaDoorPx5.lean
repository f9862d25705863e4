-- Written by a program of this session (wip/tools/xprint.py), out of the seat's translation. Not trusted: Lean checks it.
import Derived.Test.YtdbahgjfbleocaaDoorPx0
import Derived.Test.YtdbahgjfbleocaaDoorPx2
namespace Go.Proofs.YtdbahgjfbleocaaDoor.P
open Go.RowKit Go.Proofs.YtdbahgjfbleocaaDoorW.PrintWords Go.Proofs.YtdbahgjfbleocaaDoorW.PrintLast Go.Proofs.YtdbahgjfbleocaaDoorW.PrintMore
attribute [local go_sem] max2_int min2_int max_two min_two max_three min_three max_four min_four X.binOp_str_gtr X.binOp_str_leq   -- for this text's walks alone
set_option linter.unusedVariables false
set_option linter.unusedSimpArgs false

/-! ### utf8_RuneLen: function 55 -/
def utf8_RuneLen.j0 : Nat → Int → Bool → Option (Int)
  | 0, _, _ => none
  | k + 1, x0, x12 => if x12 = true then (some (-1)) else (if x0 ≤ 65535 then (some 3) else (if x0 ≤ 1114111 then (some 4) else (some (-1))))
def utf8_RuneLen.f (k : Nat) (a0 : Int) : Option (Int) := if a0 < 0 then (some (-1)) else (if a0 ≤ 127 then (some 1) else (if a0 ≤ 2047 then (some 2) else (if 55296 ≤ a0 then (utf8_RuneLen.j0 k a0 (decide (a0 ≤ 57343))) else (utf8_RuneLen.j0 k a0 false))))
theorem utf8_RuneLen.mono_l : ∀ k, (∀ y0 y1, LeO (utf8_RuneLen.j0 k y0 y1) (utf8_RuneLen.j0 (k + 1) y0 y1))
  | 0 => fun _ _ r h => by simp [utf8_RuneLen.j0] at h
  | k + 1 => by
    have ih0 := utf8_RuneLen.mono_l k
    · intro y0 y1
      unfold utf8_RuneLen.j0
      repeat' first
      | (with_reducible exact ih0 _ _)
      | (with_reducible exact LeO.refl _)
      | (with_reducible exact LeO.none _)
      | (with_reducible refine LeO.ite ?_ ?_)
      | (with_reducible refine LeO.bind ?_ (fun _ => ?_))
      | exact ih0 _ _
      | exact LeO.none _
      | refine LeO.ite ?_ ?_
      | refine LeO.bind ?_ (fun _ => ?_)
theorem utf8_RuneLen.mono : ∀ a0 k, LeO (utf8_RuneLen.f k a0) (utf8_RuneLen.f (k + 1) a0) := by
  intro a0 k
  have ih0 := utf8_RuneLen.mono_l k
  unfold utf8_RuneLen.f
  repeat' first
      | (with_reducible exact ih0 _ _)
      | (with_reducible exact LeO.refl _)
      | (with_reducible exact LeO.none _)
      | (with_reducible refine LeO.ite ?_ ?_)
      | (with_reducible refine LeO.bind ?_ (fun _ => ?_))
      | exact ih0 _ _
      | exact LeO.none _
      | refine LeO.ite ?_ ?_
      | refine LeO.bind ?_ (fun _ => ?_)
set_option maxHeartbeats 8000000 in
set_option maxRecDepth 100000 in
theorem utf8_RuneLen.calls (k : Nat) (a0 : Int) (r : Int) (w : World) (h : utf8_RuneLen.f k a0 = some r) :
    Calls Tryd.prog 55 #[.int .i32 a0] w fun e w' => e = .returned (.int .i64 r) ∧ Drawn0 w w' := by
  have H : (if a0 < 0 then (some (-1)) else (if a0 ≤ 127 then (some 1) else (if a0 ≤ 2047 then (some 2) else (if 55296 ≤ a0 then (utf8_RuneLen.j0 k a0 (decide (a0 ≤ 57343))) else (utf8_RuneLen.j0 k a0 false))))) = some r := h
  clear h
  by_cases c2 : a0 < 0
  · rw [if_pos c2] at H
    have c2b0 : decide (a0 < 0) = true := decide_eq_true c2
    clear c2
    obtain rfl := Option.some.inj H
    go_enter Tryd.func55, Tryd.ntmps55
    go_wp2
    go_ret
    exact ⟨by first | rfl | (simp; done) | (simp [*]; done), by repeat (first | exact Drawn0.refl _ | apply Drawn0.step)⟩
  · rw [if_neg c2] at H
    have c2b0 : decide (a0 < 0) = false := decide_eq_false c2
    clear c2
    by_cases c3 : a0 ≤ 127
    · rw [if_pos c3] at H
      have c3b0 : decide (a0 ≤ 127) = true := decide_eq_true c3
      clear c3
      obtain rfl := Option.some.inj H
      go_enter Tryd.func55, Tryd.ntmps55
      go_wp2
      go_ret
      exact ⟨by first | rfl | (simp; done) | (simp [*]; done), by repeat (first | exact Drawn0.refl _ | apply Drawn0.step)⟩
    · rw [if_neg c3] at H
      have c3b0 : decide (a0 ≤ 127) = false := decide_eq_false c3
      clear c3
      by_cases c4 : a0 ≤ 2047
      · rw [if_pos c4] at H
        have c4b0 : decide (a0 ≤ 2047) = true := decide_eq_true c4
        clear c4
        obtain rfl := Option.some.inj H
        go_enter Tryd.func55, Tryd.ntmps55
        go_wp2
        go_ret
        exact ⟨by first | rfl | (simp; done) | (simp [*]; done), by repeat (first | exact Drawn0.refl _ | apply Drawn0.step)⟩
      · rw [if_neg c4] at H
        have c4b0 : decide (a0 ≤ 2047) = false := decide_eq_false c4
        clear c4
        have HC5 := Aside0.mk H
        clear H
        go_enter Tryd.func55, Tryd.ntmps55
        go_upto_region 7 with (fail)
        go_cut [12] (fun v12 wc => ∃ (kq : Nat) (x12_4 : Bool), v12 = .bool x12_4 ∧ Aside0 (utf8_RuneLen.j0 kq a0 x12_4 = some r) ∧ Aside0 (kq ≤ k) ∧ Drawn0 w wc)
        case first =>
          have H := HC5.out
          clear HC5
          by_cases c6 : 55296 ≤ a0
          · rw [if_pos c6] at H
            have c6b0 : decide (55296 ≤ a0) = true := decide_eq_true c6
            clear c6
            (first | rw [c6b0] | (simp only [i64_w, i32_w]; rw [c6b0]) | skip)
            have H' := Aside0.mk H
            clear H
            go_wp2
            go_meet
            case rel => exact ⟨_, (decide (a0 ≤ 57343)), (by first | rfl | (simp; done) | (simp [*]; done)), H', ⟨by first | omega | exact Nat.le_refl _⟩, by repeat (first | exact Drawn0.refl _ | apply Drawn0.step)⟩
          · rw [if_neg c6] at H
            have c6b0 : decide (55296 ≤ a0) = false := decide_eq_false c6
            clear c6
            (first | rw [c6b0] | (simp only [i64_w, i32_w]; rw [c6b0]) | skip)
            have H' := Aside0.mk H
            clear H
            go_wp2
            go_meet
            case rel => exact ⟨_, (false), (by first | rfl | (simp; done) | (simp [*]; done)), H', ⟨by first | omega | exact Nat.le_refl _⟩, by repeat (first | exact Drawn0.refl _ | apply Drawn0.step)⟩
        case rest =>
          clear HC5
          try clear c2
          try clear c2b0
          try clear p2
          try clear c3
          try clear c3b0
          try clear c4
          try clear c4b0
          try clear c5
          try clear c6
          try clear c6b0
          obtain ⟨kq, x12_4, rfl, HA, HJ4, ⟨mc4, rfl⟩⟩ := hcut
          cases kq with
          | zero => exact absurd HA.out (by simp [utf8_RuneLen.j0])
          | succ kj4 =>
            have H := HA.out
            clear HA
            simp only [utf8_RuneLen.j0] at H
            by_cases c7 : x12_4 = true
            · subst c7
              have H1 : (some (-1)) = some r := by rw [if_pos rfl] at H; exact H
              clear H
              have H := H1
              clear H1
              obtain rfl := Option.some.inj H
              go_wp2
              go_ret
              exact ⟨by first | rfl | (simp; done) | (simp [*]; done), by repeat (first | exact Drawn0.refl _ | apply Drawn0.step)⟩
            · replace c7 := Bool.eq_false_iff.mpr c7
              subst c7
              have H1 : (if a0 ≤ 65535 then (some 3) else (if a0 ≤ 1114111 then (some 4) else (some (-1)))) = some r := by rw [if_neg (show ¬ (false = true) by decide)] at H; exact H
              clear H
              have H := H1
              clear H1
              by_cases c8 : a0 ≤ 65535
              · rw [if_pos c8] at H
                have c8b0 : decide (a0 ≤ 65535) = true := decide_eq_true c8
                clear c8
                obtain rfl := Option.some.inj H
                go_wp2
                go_ret
                exact ⟨by first | rfl | (simp; done) | (simp [*]; done), by repeat (first | exact Drawn0.refl _ | apply Drawn0.step)⟩
              · rw [if_neg c8] at H
                have c8b0 : decide (a0 ≤ 65535) = false := decide_eq_false c8
                clear c8
                by_cases c9 : a0 ≤ 1114111
                · rw [if_pos c9] at H
                  have c9b0 : decide (a0 ≤ 1114111) = true := decide_eq_true c9
                  clear c9
                  obtain rfl := Option.some.inj H
                  go_wp2
                  go_ret
                  exact ⟨by first | rfl | (simp; done) | (simp [*]; done), by repeat (first | exact Drawn0.refl _ | apply Drawn0.step)⟩
                · rw [if_neg c9] at H
                  have c9b0 : decide (a0 ≤ 1114111) = false := decide_eq_false c9
                  clear c9
                  obtain rfl := Option.some.inj H
                  go_wp2
                  go_ret
                  exact ⟨by first | rfl | (simp; done) | (simp [*]; done), by repeat (first | exact Drawn0.refl _ | apply Drawn0.step)⟩

/-! ### strings_HasPrefix: function 56 -/
def strings_HasPrefix.f (a0 : ByteArray) (a1 : ByteArray) : Option (Bool) := (stringslite_HasPrefix.f a0 a1).bind fun t167 => (some t167)
set_option maxHeartbeats 8000000 in
set_option maxRecDepth 100000 in
theorem strings_HasPrefix.calls (a0 : ByteArray) (a1 : ByteArray) (r : Bool) (w : World) (h : strings_HasPrefix.f a0 a1 = some r) :
    Calls Tryd.prog 56 #[.string a0, .string a1] w fun e w' => e = .returned (.bool r) ∧ Drawn0 w w' := by
  have H : ((stringslite_HasPrefix.f a0 a1).bind fun t167 => (some t167)) = some r := h
  clear h
  replace H := Option.bind_eq_some_iff.mp H
  obtain ⟨t167, A30, H⟩ := H
  replace H : (some t167) = some r := H
  have A3 := Aside0.mk A30
  clear A30
  obtain rfl := Option.some.inj H
  go_enter Tryd.func56, Tryd.ntmps56
  go_wp2_with (first | ((with_reducible refine gate_callee (f := 71) rfl ?_); refine goesL_ (some 7) rfl rfl Tryd.func71 (by kernel_rfl) rfl #[.string a0, .string a1] rfl (by (try simp only [List.map_toArray, List.map_cons, List.map_nil]); first | done | rfl | (simp only [List.length_drop, List.length_take]; rfl)) ?_; (with_reducible refine (stringslite_HasPrefix.calls a0 a1 t167 _ A3.out).mono ?_); rintro e w' ⟨rfl, ⟨nd, rfl⟩⟩; refine ⟨_, rfl, ?_⟩))
  go_ret
  exact ⟨by first | rfl | (simp; done) | (simp [*]; done), by repeat (first | exact Drawn0.refl _ | apply Drawn0.step)⟩

/-! ### value_Chars: function 24 -/
def value_Chars.l0 : Nat → ByteArray → Nat → List ByteArray → Option (List ByteArray)
  | 0, _, _, _ => none
  | k + 1, s, pos, l => if pos < s.size then (if l.length < 8796093022208 then (value_Chars.l0 k s (pos + (Utf8.decode s pos).2) (l ++ [s.extract pos (pos + (Utf8.decode s pos).2)])) else none) else some l
def value_Chars.f (k : Nat) (a0 : ByteArray) : Option (List ByteArray) := if a0.size ≤ 140737488351232 then value_Chars.l0 k a0 0 [] else none
theorem value_Chars.mono_l : ∀ k, (∀ y0 y1 y2, LeO (value_Chars.l0 k y0 y1 y2) (value_Chars.l0 (k + 1) y0 y1 y2))
  | 0 => fun _ _ _ r h => by simp [value_Chars.l0] at h
  | k + 1 => by
    have ih0 := value_Chars.mono_l k
    · intro y0 y1 y2
      unfold value_Chars.l0
      repeat' first
      | (with_reducible exact ih0 _ _ _)
      | (with_reducible exact LeO.refl _)
      | (with_reducible exact LeO.none _)
      | (with_reducible refine LeO.ite ?_ ?_)
theorem value_Chars.mono : ∀ a0 k, LeO (value_Chars.f k a0) (value_Chars.f (k + 1) a0) := by
  intro a0 k
  have ih0 := value_Chars.mono_l k
  unfold value_Chars.f
  repeat' first
      | (with_reducible exact ih0 _ _ _)
      | (with_reducible exact LeO.refl _)
      | (with_reducible exact LeO.none _)
      | (with_reducible refine LeO.ite ?_ ?_)
theorem value_Chars.rlen (r : Nat) (h1 : r < 55296 ∨ 57343 < r) (h2 : r ≤ 1114111) : utf8_RuneLen.f 5 (r : Int) = some (X.rl r : Int) := by
  unfold utf8_RuneLen.f X.rl
  rw [if_neg (by omega)]
  by_cases a : r ≤ 127
  · rw [if_pos (by omega), if_pos a]; rfl
  rw [if_neg (by omega), if_neg a]
  by_cases b : r ≤ 2047
  · rw [if_pos (by omega), if_pos b]; rfl
  rw [if_neg (by omega), if_neg b]
  by_cases c : r ≤ 65535
  · rw [if_pos c]
    by_cases d : (55296 : Int) ≤ r
    · rw [if_pos d, decide_eq_false (by omega)]
      simp only [utf8_RuneLen.j0]
      simp only [Bool.false_eq_true, if_false]
      rw [if_pos (by omega)]; rfl
    · rw [if_neg d]
      simp only [utf8_RuneLen.j0]
      simp only [Bool.false_eq_true, if_false]
      rw [if_pos (by omega)]; rfl
  · rw [if_neg c, if_pos (by omega), decide_eq_false (by omega)]
    simp only [utf8_RuneLen.j0]
    simp only [Bool.false_eq_true, if_false]
    rw [if_neg (by omega)]
    try rw [if_pos (by omega)]
    try rfl
theorem value_Chars.pre (s : ByteArray) (pos : Nat) (h : pos < s.size) : (X.fffd s pos → strings_HasPrefix.f (s.extract pos s.size) (⟨#[239, 191, 189]⟩ : ByteArray) = some true) ∧ (¬ X.fffd s pos → strings_HasPrefix.f (s.extract pos s.size) (⟨#[239, 191, 189]⟩ : ByteArray) = some false) := by
  unfold strings_HasPrefix.f stringslite_HasPrefix.f
  have e3 : (((⟨#[239, 191, 189]⟩ : ByteArray).size : Nat) : Int) = 3 := rfl
  have es : ((s.extract pos s.size).size : Int) = (s.size : Int) - pos := by rw [ByteArray.size_extract]; omega
  rw [e3, es]
  by_cases c : (s.size : Int) - pos ≥ 3
  · rw [if_pos c, if_pos (by decide), if_pos (by omega)]
    rw [show ((3 : Int)).toNat = 3 from rfl, X.extract3 s pos (by omega)]
    have el : (⟨#[239, 191, 189]⟩ : ByteArray).toList = [239, 191, 189] := by rw [ByteArray.toList_eq]
    rw [el]
    refine ⟨fun hf => ?_, fun hf => ?_⟩
    · obtain ⟨_, a, b, d⟩ := hf
      rw [a, b, d]
      rfl
    · have : ([s.get! pos, s.get! (pos + 1), s.get! (pos + 2)] == [239, 191, 189]) = false := by
        rw [beq_eq_false_iff_ne]
        intro hq
        injection hq with a hq
        injection hq with b hq
        injection hq with d _
        exact hf ⟨by omega, a, b, d⟩
      rw [this]
      rfl
  · rw [if_neg c]
    exact ⟨fun hf => absurd hf.1 (by omega), fun _ => rfl⟩
theorem value_Chars.info : (Tryd.prog.info? 9).map (fun i => (i.zero, i.size, i.bytes)) = some (some (.string ⟨#[]⟩), 1, 16) := by kernel_rfl
set_option maxHeartbeats 8000000 in
set_option maxRecDepth 100000 in
theorem value_Chars.calls (k : Nat) (a0 : ByteArray) (r : List ByteArray) (w : World) (h : value_Chars.f k a0 = some r) :
    Calls Tryd.prog 24 #[.string a0] w fun e w' => ∃ v0_ : Value, e = .returned (v0_) ∧ Kd.R Kd.string 9 w' w.heap.size (fun _ => True) v0_ r ∧ Below w.heap.size w w' := by
  unfold value_Chars.f at h
  by_cases c0 : a0.size ≤ 140737488351232
  rotate_left
  · rw [if_neg c0] at h
    cases h
  rw [if_pos c0] at h
  have HZ := Aside0.mk c0
  clear c0
  have H' := Aside0.mk h
  clear h
  go_enter Tryd.func24, Tryd.ntmps24
  go_wp2
  go_loopg [3] k (fun kq v3 wr => ∃ (pos : Nat) (l : List ByteArray), Aside0 (value_Chars.l0 kq a0 pos l = some r) ∧ Aside0 (kq ≤ k) ∧ Aside0 (wr.heap[w.heap.size]? = some (.stringIter a0 pos)) ∧ Aside0 (Kd.R Kd.string 9 wr w.heap.size (fun k_ => k_ ≠ w.heap.size) v3 l) ∧ Aside0 (Below w.heap.size w wr))
  case atStart => exact ⟨0, [], H', ⟨Nat.le_refl _⟩, ⟨World.iter_heap w a0 0⟩, ⟨Kd.R_nil _ _ _ _ _⟩, ⟨(Below.refl _ _).alloc (Nat.le_refl _) _⟩⟩
  case round =>
    clear H'
    obtain ⟨pos, l, HA, HK, HI, HO, HB⟩ := hrel
    cases gk with
    | zero => exact absurd HA.out (by simp [value_Chars.l0])
    | succ k1 =>
      have H := HA.out
      clear HA
      simp only [value_Chars.l0] at H
      by_cases hp : pos < a0.size
      · rw [if_pos hp] at H
        by_cases cl : l.length < 8796093022208
        rotate_left
        · rw [if_neg cl] at H
          cases H
        rw [if_pos cl] at H
        have HLm := Aside0.mk cl
        clear cl
        have hnx : ∀ ty, (Instr.next (.pointer (some ⟨w.heap.size, 0, none⟩)) true ty).run Tryd.prog wr = _ := fun ty => Lib.run_next_any_at wr w.heap.size a0 pos ty HI.out hp
        obtain ⟨d1, d2, d3, d4, d5, d6⟩ := X.dec_facts a0 pos hp
        have HP := value_Chars.pre a0 pos hp
        have hit2 := Lib.iterAt_heap wr w.heap.size a0 pos (pos + (Utf8.decode a0 pos).2) HI.out
        have hb2 := Lib.below_iterAt HB.out (k := w.heap.size) (Nat.le_refl _) a0 (pos + (Utf8.decode a0 pos).2)
        have ho2 := Kd.R_step (w1 := wr.iterAt w.heap.size a0 (pos + (Utf8.decode a0 pos).2)) HO.out (fun k_ hk_ hl_ => Lib.iterAt_other _ _ _ _ _ (by first | exact hk_ | exact Ne.symm hk_))
        have hr := value_Chars.rlen (Utf8.decode a0 pos).1 d3 d4
        have hlt0 : w.heap.size < (wr.iterAt w.heap.size a0 (pos + (Utf8.decode a0 pos).2)).heap.size := by
          rcases Nat.lt_or_ge w.heap.size (wr.iterAt w.heap.size a0 (pos + (Utf8.decode a0 pos).2)).heap.size with hh | hh
          · exact hh
          · rw [Array.getElem?_eq_none hh] at hit2; cases hit2
        generalize (Utf8.decode a0 pos).1 = ru at hnx d3 d4 d5 d6 hr
        generalize (Utf8.decode a0 pos).2 = wi at hnx d1 d2 d5 d6 hit2 hb2 ho2 H hlt0
        generalize wr.iterAt w.heap.size a0 (pos + wi) = W1 at hnx hit2 hb2 ho2 hlt0
        obtain ⟨y, hy⟩ : ∃ y_ : List ByteArray, y_ = l ++ [a0.extract pos (pos + wi)] := ⟨_, rfl⟩
        rw [← hy] at H
        have HY := Aside0.mk hy
        have H' := Aside0.mk H
        have HI2 := Aside0.mk hit2
        have HB2 := Aside0.mk hb2
        have HO2 := Aside0.mk ho2
        have HR := Aside0.mk hr
        have HLT := Aside0.mk hlt0
        clear hy H hit2 hb2 ho2 hr hlt0 HI HO HB
        have h0 : (0 : Int) ≤ (pos : Int) := by omega
        have hz9 : (a0.size : Int) ≤ 140737488351232 := by have := HZ.out; omega
        have hq0 : (pos : Int) ≤ ((pos : Int) + (wi : Int)) := by omega
        have hq1 : ((pos : Int) + (wi : Int)) ≤ (a0.size : Int) := by omega
        have hq2 : (pos : Int) ≤ (a0.size : Int) := by omega
        by_cases e : ru = 65533
        · subst e
          have e1 : X.rl 65533 = 3 := by decide
          rw [e1] at HR
          clear e1
          rcases d6 rfl with ⟨hf, hw⟩ | ⟨hf, hw⟩
          · subst hw
            have HPP := Aside0.mk (HP.1 hf)
            have hq3 : (pos : Int) ≤ (pos : Int) + 3 := by omega
            have hq4 : (pos : Int) + 3 ≤ (a0.size : Int) := by omega
            clear HP d5 d6 hf d3 d4
            go_wp2_with (first
              | (go_at_call 55; refine (utf8_RuneLen.calls 5 _ _ _ HR.out).mono ?_; rintro e w' ⟨rfl, ⟨nd, rfl⟩⟩)
              | (go_at_call 56; refine (strings_HasPrefix.calls _ _ _ _ HPP.out).mono ?_; rintro e w' ⟨rfl, ⟨nd2, rfl⟩⟩)
              | ((with_reducible refine gate_builtin (b := .append) (xs := #[.tmp 24, .tmp 31]) rfl ?_); at_builtin; refine Kd.R_append Kd.string (w0 := w) w.heap.size rfl (.tmp 24) (.tmp 31) 37 9 (.string ⟨#[]⟩) 16 rfl Tryd.underlying37 value_Chars.info rfl (by decide) (by omega) u3 l (a0.extract pos (pos + 3)) [.string (a0.extract pos (pos + 3))] (fun k_ => k_ ≠ w.heap.size) (fun _ => False) rfl rfl ?aP (fun _ hk => hk.elim) ?aF ?aO ?aB ?aS ?aL ?_; (case aP => exact rfl); (case aB => exact (by repeat (first | (with_reducible first | exact HB2.out | apply below_alloc | apply pw_below_drewN | apply below_drew1) | exact HB2.out))); (case aF => exact (fun k_ hk_ => by have h1_ := HLT.out; simp at hk_; omega)); (case aO => exact (by (with_reducible repeat (first | apply Kd.R_alloc | apply Kd.R_drewN | apply Kd.R_drew)); exact HO2.out)); (case aS => exact (below_size (by repeat (first | (with_reducible first | exact HB2.out | apply below_alloc | apply pw_below_drewN | apply below_drew1) | exact HB2.out)))); (case aL => have := HLm.out; omega); intro v9 w9 ho hb hg hat; rw [← HY.out] at ho; have hI9 := (hg.block w.heap.size (by have h1_ := HLT.out; simp; omega) (fun e_ => (Kd.R_away HO2.out (fun _ h_ => h_)) e_)).trans HI2.out; have HB9 := Aside0.mk hb; have HO9 := Aside0.mk ho; have HI9 := Aside0.mk hI9; clear ho hb hg hat hI9))
            go_roundg k1
            case measure => have := HK.out; omega
            case rel => exact ⟨pos + 3, y, H', ⟨by have := HK.out; omega⟩, HI9, HO9, HB9⟩
          · subst hw
            have HPP := Aside0.mk (HP.2 hf)
            have hq3 : (pos : Int) ≤ (pos : Int) + 1 := by omega
            have hq4 : (pos : Int) + 1 ≤ (a0.size : Int) := by omega
            clear HP d5 d6 hf d3 d4
            go_wp2_with (first
              | (go_at_call 55; refine (utf8_RuneLen.calls 5 _ _ _ HR.out).mono ?_; rintro e w' ⟨rfl, ⟨nd, rfl⟩⟩)
              | (go_at_call 56; refine (strings_HasPrefix.calls _ _ _ _ HPP.out).mono ?_; rintro e w' ⟨rfl, ⟨nd2, rfl⟩⟩)
              | ((with_reducible refine gate_builtin (b := .append) (xs := #[.tmp 24, .tmp 31]) rfl ?_); at_builtin; refine Kd.R_append Kd.string (w0 := w) w.heap.size rfl (.tmp 24) (.tmp 31) 37 9 (.string ⟨#[]⟩) 16 rfl Tryd.underlying37 value_Chars.info rfl (by decide) (by omega) u3 l (a0.extract pos (pos + 1)) [.string (a0.extract pos (pos + 1))] (fun k_ => k_ ≠ w.heap.size) (fun _ => False) rfl rfl ?aP (fun _ hk => hk.elim) ?aF ?aO ?aB ?aS ?aL ?_; (case aP => exact rfl); (case aB => exact (by repeat (first | (with_reducible first | exact HB2.out | apply below_alloc | apply pw_below_drewN | apply below_drew1) | exact HB2.out))); (case aF => exact (fun k_ hk_ => by have h1_ := HLT.out; simp at hk_; omega)); (case aO => exact (by (with_reducible repeat (first | apply Kd.R_alloc | apply Kd.R_drewN | apply Kd.R_drew)); exact HO2.out)); (case aS => exact (below_size (by repeat (first | (with_reducible first | exact HB2.out | apply below_alloc | apply pw_below_drewN | apply below_drew1) | exact HB2.out)))); (case aL => have := HLm.out; omega); intro v9 w9 ho hb hg hat; rw [← HY.out] at ho; have hI9 := (hg.block w.heap.size (by have h1_ := HLT.out; simp; omega) (fun e_ => (Kd.R_away HO2.out (fun _ h_ => h_)) e_)).trans HI2.out; have HB9 := Aside0.mk hb; have HO9 := Aside0.mk ho; have HI9 := Aside0.mk hI9; clear ho hb hg hat hI9))
            go_roundg k1
            case measure => have := HK.out; omega
            case rel => exact ⟨pos + 1, y, H', ⟨by have := HK.out; omega⟩, HI9, HO9, HB9⟩
        · have hw := d5 e
          have en : ((ru : Int) == 65533) = false := beq_eq_false_iff_ne.mpr (by omega)
          have hrl : X.rl ru = wi := hw.symm
          rw [hrl] at HR
          clear HP d5 d6 hw hrl d3 d4 e
          go_wp2_with (first
            | (go_at_call 55; refine (utf8_RuneLen.calls 5 _ _ _ HR.out).mono ?_; rintro e w' ⟨rfl, ⟨nd, rfl⟩⟩)
            | ((with_reducible refine gate_builtin (b := .append) (xs := #[.tmp 24, .tmp 31]) rfl ?_); at_builtin; refine Kd.R_append Kd.string (w0 := w) w.heap.size rfl (.tmp 24) (.tmp 31) 37 9 (.string ⟨#[]⟩) 16 rfl Tryd.underlying37 value_Chars.info rfl (by decide) (by omega) u3 l (a0.extract pos (pos + wi)) [.string (a0.extract pos (pos + wi))] (fun k_ => k_ ≠ w.heap.size) (fun _ => False) rfl rfl ?aP (fun _ hk => hk.elim) ?aF ?aO ?aB ?aS ?aL ?_; (case aP => exact rfl); (case aB => exact (by repeat (first | (with_reducible first | exact HB2.out | apply below_alloc | apply pw_below_drewN | apply below_drew1) | exact HB2.out))); (case aF => exact (fun k_ hk_ => by have h1_ := HLT.out; simp at hk_; omega)); (case aO => exact (by (with_reducible repeat (first | apply Kd.R_alloc | apply Kd.R_drewN | apply Kd.R_drew)); exact HO2.out)); (case aS => exact (below_size (by repeat (first | (with_reducible first | exact HB2.out | apply below_alloc | apply pw_below_drewN | apply below_drew1) | exact HB2.out)))); (case aL => have := HLm.out; omega); intro v9 w9 ho hb hg hat; rw [← HY.out] at ho; have hI9 := (hg.block w.heap.size (by have h1_ := HLT.out; simp; omega) (fun e_ => (Kd.R_away HO2.out (fun _ h_ => h_)) e_)).trans HI2.out; have HB9 := Aside0.mk hb; have HO9 := Aside0.mk ho; have HI9 := Aside0.mk hI9; clear ho hb hg hat hI9))
          go_roundg k1
          case measure => have := HK.out; omega
          case rel => exact ⟨pos + wi, y, H', ⟨by have := HK.out; omega⟩, HI9, HO9, HB9⟩
      · rw [if_neg hp] at H
        obtain rfl := Option.some.inj H
        have hnx : ∀ ty, (Instr.next (.pointer (some ⟨w.heap.size, 0, none⟩)) true ty).run Tryd.prog wr = _ := fun ty => Lib.run_next_end_at wr w.heap.size a0 pos ty HI.out hp
        go_wp2
        go_ret
        exact ⟨_, rfl, Kd.R_mono HO.out (fun _ _ => trivial), HB.out⟩
/-! ### octavoref05_digits: function 64 -/
def octavoref05_digits.l0 : Nat → ByteArray → Int → Int → Int → Option (Bool)
  | 0, _, _, _, _ => none
  | k + 1, x0, x1, x2, x7 => if x7 < (x0.size : Int) then (if 0 ≤ x7 then (if (bt x0 x7) < 48 then (some false) else (if (bt x0 x7) > 57 then (some false) else (octavoref05_digits.l0 k x0 x1 x2 (wrap64 (x7 + 1))))) else (none)) else (if (x0.size : Int) ≥ x1 then (some (decide ((x0.size : Int) ≤ x2))) else (some false))
def octavoref05_digits.f (k : Nat) (a0 : ByteArray) (a1 : Int) (a2 : Int) : Option (Bool) := octavoref05_digits.l0 k a0 a1 a2 0
theorem octavoref05_digits.mono_l : ∀ k, (∀ y0 y1 y2 y3, LeO (octavoref05_digits.l0 k y0 y1 y2 y3) (octavoref05_digits.l0 (k + 1) y0 y1 y2 y3))
  | 0 => fun _ _ _ _ r h => by simp [octavoref05_digits.l0] at h
  | k + 1 => by
    have ih0 := octavoref05_digits.mono_l k
    · intro y0 y1 y2 y3
      unfold octavoref05_digits.l0
      repeat' first
      | (with_reducible exact ih0 _ _ _ _)
      | (with_reducible exact LeO.refl _)
      | (with_reducible exact LeO.none _)
      | (with_reducible refine LeO.ite ?_ ?_)
      | (with_reducible refine LeO.bind ?_ (fun _ => ?_))
      | exact ih0 _ _ _ _
      | exact LeO.none _
      | refine LeO.ite ?_ ?_
      | refine LeO.bind ?_ (fun _ => ?_)
theorem octavoref05_digits.mono : ∀ a0 a1 a2 k, LeO (octavoref05_digits.f k a0 a1 a2) (octavoref05_digits.f (k + 1) a0 a1 a2) := by
  intro a0 a1 a2 k
  have ih0 := octavoref05_digits.mono_l k
  unfold octavoref05_digits.f
  repeat' first
      | (with_reducible exact ih0 _ _ _ _)
      | (with_reducible exact LeO.refl _)
      | (with_reducible exact LeO.none _)
      | (with_reducible refine LeO.ite ?_ ?_)
      | (with_reducible refine LeO.bind ?_ (fun _ => ?_))
      | exact ih0 _ _ _ _
      | exact LeO.none _
      | refine LeO.ite ?_ ?_
      | refine LeO.bind ?_ (fun _ => ?_)
set_option maxHeartbeats 8000000 in
set_option maxRecDepth 100000 in
theorem octavoref05_digits.calls (k : Nat) (a0 : ByteArray) (a1 : Int) (a2 : Int) (r : Bool) (w : World) (h : octavoref05_digits.f k a0 a1 a2 = some r) :
    Calls Tryd.prog 64 #[.string a0, .int .i64 a1, .int .i64 a2] w fun e w' => e = .returned (.bool r) ∧ Drawn0 w w' := by
  have H : (octavoref05_digits.l0 k a0 a1 a2 0) = some r := h
  clear h
  have H' := Aside0.mk H
  clear H
  go_enter Tryd.func64, Tryd.ntmps64
  go_wp2
  go_loopg [7] k (fun kq v7 w' => ∃ (x7_1 : Int), v7 = .int .i64 x7_1 ∧ Aside0 (octavoref05_digits.l0 kq a0 a1 a2 x7_1 = some r) ∧ Aside0 (kq ≤ k) ∧ Drawn0 w w')
  case atStart => exact ⟨(0), (by first | rfl | (simp; done) | (simp [*]; done)), H', ⟨Nat.le_refl _⟩, by repeat (first | exact Drawn0.refl _ | apply Drawn0.step)⟩
  case round =>
    clear H'
    try clear p2
    obtain ⟨x7_1, rfl, HA, HK1, ⟨m1, rfl⟩⟩ := hrel
    cases gk with
    | zero => exact absurd HA.out (by simp [octavoref05_digits.l0])
    | succ k1 =>
      have H := HA.out
      clear HA
      simp only [octavoref05_digits.l0] at H
      by_cases c4 : x7_1 < (a0.size : Int)
      · rw [if_pos c4] at H
        have c4b0 : decide (x7_1 < (a0.size : Int)) = true := decide_eq_true c4
        clear c4
        by_cases c5 : 0 ≤ x7_1
        · rw [if_pos c5] at H
          have c5b0 : decide (0 ≤ x7_1) = true := decide_eq_true c5
          clear c5
          by_cases c7 : (bt a0 x7_1) < 48
          · rw [if_pos c7] at H
            have c7b0 : decide ((bt a0 x7_1) < 48) = true := decide_eq_true c7
            clear c7
            obtain rfl := Option.some.inj H
            have p6 : 0 ≤ (x7_1 : Int) := of_decide_eq_true (by first | (with_reducible assumption) | assumption)
            have q6 : x7_1 < (a0.size : Int) := of_decide_eq_true (by first | (with_reducible assumption) | assumption)
            have hx6 := bt_at a0 x7_1
            replace p6 := eq_true p6
            replace q6 := eq_true q6
            go_wp2
            go_ret
            exact ⟨by first | rfl | (simp; done) | (simp [*]; done), by repeat (first | exact Drawn0.refl _ | apply Drawn0.step)⟩
          · rw [if_neg c7] at H
            have c7b0 : decide ((bt a0 x7_1) < 48) = false := decide_eq_false c7
            clear c7
            by_cases c9 : (bt a0 x7_1) > 57
            · rw [if_pos c9] at H
              have c9b0 : decide (57 < (bt a0 x7_1)) = true := decide_eq_true c9
              clear c9
              obtain rfl := Option.some.inj H
              have p6 : 0 ≤ (x7_1 : Int) := of_decide_eq_true (by first | (with_reducible assumption) | assumption)
              have q6 : x7_1 < (a0.size : Int) := of_decide_eq_true (by first | (with_reducible assumption) | assumption)
              have hx6 := bt_at a0 x7_1
              replace p6 := eq_true p6
              replace q6 := eq_true q6
              have p8 : 0 ≤ (x7_1 : Int) := of_decide_eq_true (by first | (with_reducible assumption) | assumption)
              have q8 : x7_1 < (a0.size : Int) := of_decide_eq_true (by first | (with_reducible assumption) | assumption)
              have hx8 := bt_at a0 x7_1
              replace p8 := eq_true p8
              replace q8 := eq_true q8
              go_wp2
              go_ret
              exact ⟨by first | rfl | (simp; done) | (simp [*]; done), by repeat (first | exact Drawn0.refl _ | apply Drawn0.step)⟩
            · rw [if_neg c9] at H
              have c9b0 : decide (57 < (bt a0 x7_1)) = false := decide_eq_false c9
              clear c9
              have H' := Aside0.mk H
              clear H
              have p6 : 0 ≤ (x7_1 : Int) := of_decide_eq_true (by first | (with_reducible assumption) | assumption)
              have q6 : x7_1 < (a0.size : Int) := of_decide_eq_true (by first | (with_reducible assumption) | assumption)
              have hx6 := bt_at a0 x7_1
              replace p6 := eq_true p6
              replace q6 := eq_true q6
              have p8 : 0 ≤ (x7_1 : Int) := of_decide_eq_true (by first | (with_reducible assumption) | assumption)
              have q8 : x7_1 < (a0.size : Int) := of_decide_eq_true (by first | (with_reducible assumption) | assumption)
              have hx8 := bt_at a0 x7_1
              replace p8 := eq_true p8
              replace q8 := eq_true q8
              go_wp2
              go_roundg k1
              case measure => have := HK1.out; omega
              case rel => exact ⟨(wrap64 (x7_1 + 1)), (by first | rfl | (simp; done) | (simp [*]; done)), H', ⟨by have := HK1.out; omega⟩, by repeat (first | exact Drawn0.refl _ | apply Drawn0.step)⟩
        · rw [if_neg c5] at H
          exact absurd H (by simp)
      · rw [if_neg c4] at H
        have c4b0 : decide (x7_1 < (a0.size : Int)) = false := decide_eq_false c4
        clear c4
        by_cases c10 : (a0.size : Int) ≥ a1
        · rw [if_pos c10] at H
          have c10b0 : decide (a1 ≤ (a0.size : Int)) = true := decide_eq_true c10
          clear c10
          obtain rfl := Option.some.inj H
          go_wp2
          go_ret
          exact ⟨by first | rfl | (simp; done) | (simp [*]; done), by repeat (first | exact Drawn0.refl _ | apply Drawn0.step)⟩
        · rw [if_neg c10] at H
          have c10b0 : decide (a1 ≤ (a0.size : Int)) = false := decide_eq_false c10
          clear c10
          obtain rfl := Option.some.inj H
          go_wp2
          go_ret
          exact ⟨by first | rfl | (simp; done) | (simp [*]; done), by repeat (first | exact Drawn0.refl _ | apply Drawn0.step)⟩

/-! ### octavoref05_Good: function 37 -/
def octavoref05_Good.f (a0 : Int) : Option (Bool) := if a0 ≥ (-100000000000) then (some (decide (a0 ≤ 100000000000))) else (some false)
set_option maxHeartbeats 8000000 in
set_option maxRecDepth 100000 in
theorem octavoref05_Good.calls (a0 : Int) (r : Bool) (w : World) (h : octavoref05_Good.f a0 = some r) :
    Calls Tryd.prog 37 #[.int .i64 a0] w fun e w' => e = .returned (.bool r) ∧ Drawn0 w w' := by
  have H : (if a0 ≥ (-100000000000) then (some (decide (a0 ≤ 100000000000))) else (some false)) = some r := h
  clear h
  by_cases c2 : a0 ≥ (-100000000000)
  · rw [if_pos c2] at H
    have c2b0 : decide ((-100000000000) ≤ a0) = true := decide_eq_true c2
    clear c2
    obtain rfl := Option.some.inj H
    go_enter Tryd.func37, Tryd.ntmps37
    go_wp2
    go_ret
    exact ⟨by first | rfl | (simp; done) | (simp [*]; done), by repeat (first | exact Drawn0.refl _ | apply Drawn0.step)⟩
  · rw [if_neg c2] at H
    have c2b0 : decide ((-100000000000) ≤ a0) = false := decide_eq_false c2
    clear c2
    obtain rfl := Option.some.inj H
    go_enter Tryd.func37, Tryd.ntmps37
    go_wp2
    go_ret
    exact ⟨by first | rfl | (simp; done) | (simp [*]; done), by repeat (first | exact Drawn0.refl _ | apply Drawn0.step)⟩

/-! ### octavoref05_out: function 65 -/
def octavoref05_out.f (a0 : Int) : Option (Int × Bool) := (octavoref05_Good.f a0).bind fun t168 => (if t168 = true then (some (a0, true)) else (some (0, false)))
set_option maxHeartbeats 8000000 in
set_option maxRecDepth 100000 in
theorem octavoref05_out.calls (a0 : Int) (r1 : Int) (r2 : Bool) (w : World) (h : octavoref05_out.f a0 = some (r1, r2)) :
    Calls Tryd.prog 65 #[.int .i64 a0] w fun e w' => e = .returned (.tuple #[.int .i64 r1, .bool r2]) ∧ Drawn0 w w' := by
  have H : ((octavoref05_Good.f a0).bind fun t168 => (if t168 = true then (some (a0, true)) else (some (0, false)))) = some (r1, r2) := h
  clear h
  replace H := Option.bind_eq_some_iff.mp H
  obtain ⟨t168, A20, H⟩ := H
  replace H : (if t168 = true then (some (a0, true)) else (some (0, false))) = some (r1, r2) := H
  have A2 := Aside0.mk A20
  clear A20
  by_cases c3 : t168 = true
  · subst c3
    have H1 : (some (a0, true)) = some (r1, r2) := by rw [if_pos rfl] at H; exact H
    clear H
    have H := H1
    clear H1
    simp only [Option.some.injEq, Prod.mk.injEq] at H
    obtain ⟨rfl, rfl⟩ := H
    go_enter Tryd.func65, Tryd.ntmps65
    go_wp2_with (first | ((with_reducible refine gate_callee (f := 37) rfl ?_); refine goesL_ (some 5) rfl rfl Tryd.func37 (by kernel_rfl) rfl #[.int .i64 a0] rfl (by (try simp only [List.map_toArray, List.map_cons, List.map_nil]); first | done | rfl | (simp only [List.length_drop, List.length_take]; rfl)) ?_; (with_reducible refine (octavoref05_Good.calls a0 true _ A2.out).mono ?_); rintro e w' ⟨rfl, ⟨nd, rfl⟩⟩; refine ⟨_, rfl, ?_⟩))
    go_ret2
    exact ⟨by first | rfl | (simp; done) | (simp [*]; done), by repeat (first | exact Drawn0.refl _ | apply Drawn0.step)⟩
  · replace c3 := Bool.eq_false_iff.mpr c3
    subst c3
    have H1 : (some (0, false)) = some (r1, r2) := by rw [if_neg (show ¬ (false = true) by decide)] at H; exact H
    clear H
    have H := H1
    clear H1
    simp only [Option.some.injEq, Prod.mk.injEq] at H
    obtain ⟨rfl, rfl⟩ := H
    go_enter Tryd.func65, Tryd.ntmps65
    go_wp2_with (first | ((with_reducible refine gate_callee (f := 37) rfl ?_); refine goesL_ (some 5) rfl rfl Tryd.func37 (by kernel_rfl) rfl #[.int .i64 a0] rfl (by (try simp only [List.map_toArray, List.map_cons, List.map_nil]); first | done | rfl | (simp only [List.length_drop, List.length_take]; rfl)) ?_; (with_reducible refine (octavoref05_Good.calls a0 false _ A2.out).mono ?_); rintro e w' ⟨rfl, ⟨nd, rfl⟩⟩; refine ⟨_, rfl, ?_⟩))
    go_ret2
    exact ⟨by first | rfl | (simp; done) | (simp [*]; done), by repeat (first | exact Drawn0.refl _ | apply Drawn0.step)⟩

end Go.Proofs.YtdbahgjfbleocaaDoor.P
