-- Written by a program of this session (wip/tools/xprint.py), out of the seat's translation. Not trusted: Lean checks it.
import Derived.Test.YtdbahgjfbleocaaDoorPx0
import Derived.Test.YtdbahgjfbleocaaDoorPx2
import Derived.Test.YtdbahgjfbleocaaDoorPx5
namespace Go.Proofs.YtdbahgjfbleocaaDoor.P
open Go.RowKit Go.Proofs.YtdbahgjfbleocaaDoorW.PrintWords Go.Proofs.YtdbahgjfbleocaaDoorW.PrintLast Go.Proofs.YtdbahgjfbleocaaDoorW.PrintMore
attribute [local go_sem] max2_int min2_int max_two min_two max_three min_three max_four min_four X.binOp_str_gtr X.binOp_str_leq   -- for this text's walks alone
set_option linter.unusedVariables false
set_option linter.unusedSimpArgs false

/-! ### value_Chars: function 24 -/
def value_Chars.l0 : Nat → ByteArray → Nat → List ByteArray → Option (List ByteArray)
  | 0, _, _, _ => none
  | k + 1, s, pos, l => if pos < s.size then (if l.length < 8796093022208 then (value_Chars.l0 k s (pos + (Utf8.decode s pos).2) (l ++ [s.extract pos (pos + (Utf8.decode s pos).2)])) else none) else some l
def value_Chars.f (k : Nat) (a0 : ByteArray) : Option (List ByteArray) := if a0.size ≤ 140737488351232 then value_Chars.l0 k a0 0 [] else none
theorem value_Chars.mono_l : ∀ k, (∀ y0 y1 y2, LeO (value_Chars.l0 k y0 y1 y2) (value_Chars.l0 (k + 1) y0 y1 y2))
  | 0 => fun _ _ _ r h => by simp [value_Chars.l0] at h
  | k + 1 => by
    have ih0 := value_Chars.mono_l k
    · intro y0 y1 y2
      unfold value_Chars.l0
      repeat' first
      | (with_reducible exact ih0 _ _ _)
      | (with_reducible exact LeO.refl _)
      | (with_reducible exact LeO.none _)
      | (with_reducible refine LeO.ite ?_ ?_)
theorem value_Chars.mono : ∀ a0 k, LeO (value_Chars.f k a0) (value_Chars.f (k + 1) a0) := by
  intro a0 k
  have ih0 := value_Chars.mono_l k
  unfold value_Chars.f
  repeat' first
      | (with_reducible exact ih0 _ _ _)
      | (with_reducible exact LeO.refl _)
      | (with_reducible exact LeO.none _)
      | (with_reducible refine LeO.ite ?_ ?_)
theorem value_Chars.rlen (r : Nat) (h1 : r < 55296 ∨ 57343 < r) (h2 : r ≤ 1114111) : utf8_RuneLen.f 5 (r : Int) = some (X.rl r : Int) := by
  unfold utf8_RuneLen.f X.rl
  rw [if_neg (by omega)]
  by_cases a : r ≤ 127
  · rw [if_pos (by omega), if_pos a]; rfl
  rw [if_neg (by omega), if_neg a]
  by_cases b : r ≤ 2047
  · rw [if_pos (by omega), if_pos b]; rfl
  rw [if_neg (by omega), if_neg b]
  by_cases c : r ≤ 65535
  · rw [if_pos c]
    by_cases d : (55296 : Int) ≤ r
    · rw [if_pos d, decide_eq_false (by omega)]
      simp only [utf8_RuneLen.j0]
      simp only [Bool.false_eq_true, if_false]
      rw [if_pos (by omega)]; rfl
    · rw [if_neg d]
      simp only [utf8_RuneLen.j0]
      simp only [Bool.false_eq_true, if_false]
      rw [if_pos (by omega)]; rfl
  · rw [if_neg c, if_pos (by omega), decide_eq_false (by omega)]
    simp only [utf8_RuneLen.j0]
    simp only [Bool.false_eq_true, if_false]
    rw [if_neg (by omega)]
    try rw [if_pos (by omega)]
    try rfl
theorem value_Chars.pre (s : ByteArray) (pos : Nat) (h : pos < s.size) : (X.fffd s pos → strings_HasPrefix.f (s.extract pos s.size) (⟨#[239, 191, 189]⟩ : ByteArray) = some true) ∧ (¬ X.fffd s pos → strings_HasPrefix.f (s.extract pos s.size) (⟨#[239, 191, 189]⟩ : ByteArray) = some false) := by
  unfold strings_HasPrefix.f stringslite_HasPrefix.f
  have e3 : (((⟨#[239, 191, 189]⟩ : ByteArray).size : Nat) : Int) = 3 := rfl
  have es : ((s.extract pos s.size).size : Int) = (s.size : Int) - pos := by rw [ByteArray.size_extract]; omega
  rw [e3, es]
  by_cases c : (s.size : Int) - pos ≥ 3
  · rw [if_pos c, if_pos (by decide), if_pos (by omega)]
    rw [show ((3 : Int)).toNat = 3 from rfl, X.extract3 s pos (by omega)]
    have el : (⟨#[239, 191, 189]⟩ : ByteArray).toList = [239, 191, 189] := by rw [ByteArray.toList_eq]
    rw [el]
    refine ⟨fun hf => ?_, fun hf => ?_⟩
    · obtain ⟨_, a, b, d⟩ := hf
      rw [a, b, d]
      rfl
    · have : ([s.get! pos, s.get! (pos + 1), s.get! (pos + 2)] == [239, 191, 189]) = false := by
        rw [beq_eq_false_iff_ne]
        intro hq
        injection hq with a hq
        injection hq with b hq
        injection hq with d _
        exact hf ⟨by omega, a, b, d⟩
      rw [this]
      rfl
  · rw [if_neg c]
    exact ⟨fun hf => absurd hf.1 (by omega), fun _ => rfl⟩
theorem value_Chars.info : (Tryd.prog.info? 9).map (fun i => (i.zero, i.size, i.bytes)) = some (some (.string ⟨#[]⟩), 1, 16) := by kernel_rfl
set_option maxHeartbeats 8000000 in
set_option maxRecDepth 100000 in
theorem value_Chars.calls (k : Nat) (a0 : ByteArray) (r : List ByteArray) (w : World) (h : value_Chars.f k a0 = some r) :
    Calls Tryd.prog 24 #[.string a0] w fun e w' => ∃ v0_ : Value, e = .returned (v0_) ∧ Kd.R Kd.string 9 w' w.heap.size (fun _ => True) v0_ r ∧ Below w.heap.size w w' := by
  unfold value_Chars.f at h
  by_cases c0 : a0.size ≤ 140737488351232
  rotate_left
  · rw [if_neg c0] at h
    cases h
  rw [if_pos c0] at h
  have HZ := Aside0.mk c0
  clear c0
  have H' := Aside0.mk h
  clear h
  go_enter Tryd.func24, Tryd.ntmps24
  go_wp2
  go_loopg [3] k (fun kq v3 wr => ∃ (pos : Nat) (l : List ByteArray), Aside0 (value_Chars.l0 kq a0 pos l = some r) ∧ Aside0 (kq ≤ k) ∧ Aside0 (wr.heap[w.heap.size]? = some (.stringIter a0 pos)) ∧ Aside0 (Kd.R Kd.string 9 wr w.heap.size (fun k_ => k_ ≠ w.heap.size) v3 l) ∧ Aside0 (Below w.heap.size w wr))
  case atStart => exact ⟨0, [], H', ⟨Nat.le_refl _⟩, ⟨World.iter_heap w a0 0⟩, ⟨Kd.R_nil _ _ _ _ _⟩, ⟨(Below.refl _ _).alloc (Nat.le_refl _) _⟩⟩
  case round =>
    clear H'
    obtain ⟨pos, l, HA, HK, HI, HO, HB⟩ := hrel
    cases gk with
    | zero => exact absurd HA.out (by simp [value_Chars.l0])
    | succ k1 =>
      have H := HA.out
      clear HA
      simp only [value_Chars.l0] at H
      by_cases hp : pos < a0.size
      · rw [if_pos hp] at H
        by_cases cl : l.length < 8796093022208
        rotate_left
        · rw [if_neg cl] at H
          cases H
        rw [if_pos cl] at H
        have HLm := Aside0.mk cl
        clear cl
        have hnx : ∀ ty, (Instr.next (.pointer (some ⟨w.heap.size, 0, none⟩)) true ty).run Tryd.prog wr = _ := fun ty => Lib.run_next_any_at wr w.heap.size a0 pos ty HI.out hp
        obtain ⟨d1, d2, d3, d4, d5, d6⟩ := X.dec_facts a0 pos hp
        have HP := value_Chars.pre a0 pos hp
        have hit2 := Lib.iterAt_heap wr w.heap.size a0 pos (pos + (Utf8.decode a0 pos).2) HI.out
        have hb2 := Lib.below_iterAt HB.out (k := w.heap.size) (Nat.le_refl _) a0 (pos + (Utf8.decode a0 pos).2)
        have ho2 := Kd.R_step (w1 := wr.iterAt w.heap.size a0 (pos + (Utf8.decode a0 pos).2)) HO.out (fun k_ hk_ hl_ => Lib.iterAt_other _ _ _ _ _ (by first | exact hk_ | exact Ne.symm hk_))
        have hr := value_Chars.rlen (Utf8.decode a0 pos).1 d3 d4
        have hlt0 : w.heap.size < (wr.iterAt w.heap.size a0 (pos + (Utf8.decode a0 pos).2)).heap.size := by
          rcases Nat.lt_or_ge w.heap.size (wr.iterAt w.heap.size a0 (pos + (Utf8.decode a0 pos).2)).heap.size with hh | hh
          · exact hh
          · rw [Array.getElem?_eq_none hh] at hit2; cases hit2
        generalize (Utf8.decode a0 pos).1 = ru at hnx d3 d4 d5 d6 hr
        generalize (Utf8.decode a0 pos).2 = wi at hnx d1 d2 d5 d6 hit2 hb2 ho2 H hlt0
        generalize wr.iterAt w.heap.size a0 (pos + wi) = W1 at hnx hit2 hb2 ho2 hlt0
        obtain ⟨y, hy⟩ : ∃ y_ : List ByteArray, y_ = l ++ [a0.extract pos (pos + wi)] := ⟨_, rfl⟩
        rw [← hy] at H
        have HY := Aside0.mk hy
        have H' := Aside0.mk H
        have HI2 := Aside0.mk hit2
        have HB2 := Aside0.mk hb2
        have HO2 := Aside0.mk ho2
        have HR := Aside0.mk hr
        have HLT := Aside0.mk hlt0
        clear hy H hit2 hb2 ho2 hr hlt0 HI HO HB
        have h0 : (0 : Int) ≤ (pos : Int) := by omega
        have hz9 : (a0.size : Int) ≤ 140737488351232 := by have := HZ.out; omega
        have hq0 : (pos : Int) ≤ ((pos : Int) + (wi : Int)) := by omega
        have hq1 : ((pos : Int) + (wi : Int)) ≤ (a0.size : Int) := by omega
        have hq2 : (pos : Int) ≤ (a0.size : Int) := by omega
        by_cases e : ru = 65533
        · subst e
          have e1 : X.rl 65533 = 3 := by decide
          rw [e1] at HR
          clear e1
          rcases d6 rfl with ⟨hf, hw⟩ | ⟨hf, hw⟩
          · subst hw
            have HPP := Aside0.mk (HP.1 hf)
            have hq3 : (pos : Int) ≤ (pos : Int) + 3 := by omega
            have hq4 : (pos : Int) + 3 ≤ (a0.size : Int) := by omega
            clear HP d5 d6 hf d3 d4
            go_wp2_with (first
              | (go_at_call 55; refine (utf8_RuneLen.calls 5 _ _ _ HR.out).mono ?_; rintro e w' ⟨rfl, ⟨nd, rfl⟩⟩)
              | (go_at_call 56; refine (strings_HasPrefix.calls _ _ _ _ HPP.out).mono ?_; rintro e w' ⟨rfl, ⟨nd2, rfl⟩⟩)
              | ((with_reducible refine gate_builtin (b := .append) (xs := #[.tmp 24, .tmp 31]) rfl ?_); at_builtin; refine Kd.R_append Kd.string (w0 := w) w.heap.size rfl (.tmp 24) (.tmp 31) 37 9 (.string ⟨#[]⟩) 16 rfl Tryd.underlying37 value_Chars.info rfl (by decide) (by omega) u3 l (a0.extract pos (pos + 3)) [.string (a0.extract pos (pos + 3))] (fun k_ => k_ ≠ w.heap.size) (fun _ => False) rfl rfl ?aP (fun _ hk => hk.elim) ?aF ?aO ?aB ?aS ?aL ?_; (case aP => exact rfl); (case aB => exact (by repeat (first | (with_reducible first | exact HB2.out | apply below_alloc | apply pw_below_drewN | apply below_drew1) | exact HB2.out))); (case aF => exact (fun k_ hk_ => by have h1_ := HLT.out; simp at hk_; omega)); (case aO => exact (by (with_reducible repeat (first | apply Kd.R_alloc | apply Kd.R_drewN | apply Kd.R_drew)); exact HO2.out)); (case aS => exact (below_size (by repeat (first | (with_reducible first | exact HB2.out | apply below_alloc | apply pw_below_drewN | apply below_drew1) | exact HB2.out)))); (case aL => have := HLm.out; omega); intro v9 w9 ho hb hg hat; rw [← HY.out] at ho; have hI9 := (hg.block w.heap.size (by have h1_ := HLT.out; simp; omega) (fun e_ => (Kd.R_away HO2.out (fun _ h_ => h_)) e_)).trans HI2.out; have HB9 := Aside0.mk hb; have HO9 := Aside0.mk ho; have HI9 := Aside0.mk hI9; clear ho hb hg hat hI9))
            go_roundg k1
            case measure => have := HK.out; omega
            case rel => exact ⟨pos + 3, y, H', ⟨by have := HK.out; omega⟩, HI9, HO9, HB9⟩
          · subst hw
            have HPP := Aside0.mk (HP.2 hf)
            have hq3 : (pos : Int) ≤ (pos : Int) + 1 := by omega
            have hq4 : (pos : Int) + 1 ≤ (a0.size : Int) := by omega
            clear HP d5 d6 hf d3 d4
            go_wp2_with (first
              | (go_at_call 55; refine (utf8_RuneLen.calls 5 _ _ _ HR.out).mono ?_; rintro e w' ⟨rfl, ⟨nd, rfl⟩⟩)
              | (go_at_call 56; refine (strings_HasPrefix.calls _ _ _ _ HPP.out).mono ?_; rintro e w' ⟨rfl, ⟨nd2, rfl⟩⟩)
              | ((with_reducible refine gate_builtin (b := .append) (xs := #[.tmp 24, .tmp 31]) rfl ?_); at_builtin; refine Kd.R_append Kd.string (w0 := w) w.heap.size rfl (.tmp 24) (.tmp 31) 37 9 (.string ⟨#[]⟩) 16 rfl Tryd.underlying37 value_Chars.info rfl (by decide) (by omega) u3 l (a0.extract pos (pos + 1)) [.string (a0.extract pos (pos + 1))] (fun k_ => k_ ≠ w.heap.size) (fun _ => False) rfl rfl ?aP (fun _ hk => hk.elim) ?aF ?aO ?aB ?aS ?aL ?_; (case aP => exact rfl); (case aB => exact (by repeat (first | (with_reducible first | exact HB2.out | apply below_alloc | apply pw_below_drewN | apply below_drew1) | exact HB2.out))); (case aF => exact (fun k_ hk_ => by have h1_ := HLT.out; simp at hk_; omega)); (case aO => exact (by (with_reducible repeat (first | apply Kd.R_alloc | apply Kd.R_drewN | apply Kd.R_drew)); exact HO2.out)); (case aS => exact (below_size (by repeat (first | (with_reducible first | exact HB2.out | apply below_alloc | apply pw_below_drewN | apply below_drew1) | exact HB2.out)))); (case aL => have := HLm.out; omega); intro v9 w9 ho hb hg hat; rw [← HY.out] at ho; have hI9 := (hg.block w.heap.size (by have h1_ := HLT.out; simp; omega) (fun e_ => (Kd.R_away HO2.out (fun _ h_ => h_)) e_)).trans HI2.out; have HB9 := Aside0.mk hb; have HO9 := Aside0.mk ho; have HI9 := Aside0.mk hI9; clear ho hb hg hat hI9))
            go_roundg k1
            case measure => have := HK.out; omega
            case rel => exact ⟨pos + 1, y, H', ⟨by have := HK.out; omega⟩, HI9, HO9, HB9⟩
        · have hw := d5 e
          have en : ((ru : Int) == 65533) = false := beq_eq_false_iff_ne.mpr (by omega)
          have hrl : X.rl ru = wi := hw.symm
          rw [hrl] at HR
          clear HP d5 d6 hw hrl d3 d4 e
          go_wp2_with (first
            | (go_at_call 55; refine (utf8_RuneLen.calls 5 _ _ _ HR.out).mono ?_; rintro e w' ⟨rfl, ⟨nd, rfl⟩⟩)
            | ((with_reducible refine gate_builtin (b := .append) (xs := #[.tmp 24, .tmp 31]) rfl ?_); at_builtin; refine Kd.R_append Kd.string (w0 := w) w.heap.size rfl (.tmp 24) (.tmp 31) 37 9 (.string ⟨#[]⟩) 16 rfl Tryd.underlying37 value_Chars.info rfl (by decide) (by omega) u3 l (a0.extract pos (pos + wi)) [.string (a0.extract pos (pos + wi))] (fun k_ => k_ ≠ w.heap.size) (fun _ => False) rfl rfl ?aP (fun _ hk => hk.elim) ?aF ?aO ?aB ?aS ?aL ?_; (case aP => exact rfl); (case aB => exact (by repeat (first | (with_reducible first | exact HB2.out | apply below_alloc | apply pw_below_drewN | apply below_drew1) | exact HB2.out))); (case aF => exact (fun k_ hk_ => by have h1_ := HLT.out; simp at hk_; omega)); (case aO => exact (by (with_reducible repeat (first | apply Kd.R_alloc | apply Kd.R_drewN | apply Kd.R_drew)); exact HO2.out)); (case aS => exact (below_size (by repeat (first | (with_reducible first | exact HB2.out | apply below_alloc | apply pw_below_drewN | apply below_drew1) | exact HB2.out)))); (case aL => have := HLm.out; omega); intro v9 w9 ho hb hg hat; rw [← HY.out] at ho; have hI9 := (hg.block w.heap.size (by have h1_ := HLT.out; simp; omega) (fun e_ => (Kd.R_away HO2.out (fun _ h_ => h_)) e_)).trans HI2.out; have HB9 := Aside0.mk hb; have HO9 := Aside0.mk ho; have HI9 := Aside0.mk hI9; clear ho hb hg hat hI9))
          go_roundg k1
          case measure => have := HK.out; omega
          case rel => exact ⟨pos + wi, y, H', ⟨by have := HK.out; omega⟩, HI9, HO9, HB9⟩
      · rw [if_neg hp] at H
        obtain rfl := Option.some.inj H
        have hnx : ∀ ty, (Instr.next (.pointer (some ⟨w.heap.size, 0, none⟩)) true ty).run Tryd.prog wr = _ := fun ty => Lib.run_next_end_at wr w.heap.size a0 pos ty HI.out hp
        go_wp2
        go_ret
        exact ⟨_, rfl, Kd.R_mono HO.out (fun _ _ => trivial), HB.out⟩
end Go.Proofs.YtdbahgjfbleocaaDoor.P
