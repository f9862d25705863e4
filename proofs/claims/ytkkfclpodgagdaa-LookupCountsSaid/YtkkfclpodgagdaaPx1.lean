-- Written by a program of this session (wip/tools/xprint.py), out of the seat's translation. Not trusted: Lean checks it.
import Derived.Test.YtkkfclpodgagdaaPx0
namespace Go.Proofs.Ytkkfclpodgagdaa.P
open Go.RowKit Go.Proofs.YtkkfclpodgagdaaW.PrintWords Go.Proofs.YtkkfclpodgagdaaW.PrintLast Go.Proofs.YtkkfclpodgagdaaW.PrintMore
attribute [local go_sem] max2_int min2_int max_two min_two max_three min_three max_four min_four X.binOp_str_gtr X.binOp_str_leq
set_option linter.unusedVariables false
set_option linter.unusedSimpArgs false
set_option maxHeartbeats 4000000 in
set_option maxRecDepth 100000 in
theorem value_mapped.callsUpper (g : Int → Int) (hF : ∀ (c : Int) (w : World), 0 ≤ c → c ≤ 255 → Calls Try.prog 45 #[.int .u8 c] w fun e w' => e = .returned (.int .u8 (g c)) ∧ w = w') (s : ByteArray) (hs : s.size ≤ 9223372036854775807) (w : World) :
  Calls Try.prog 44 #[.string s, .func (.func 45) #[] #[]] w fun e w' => e = .returned (.string (X.mapS g s)) ∧ Below w.heap.size w w' := by
 have hcv := Lib.run_convert_string_bytes (P := Try.prog) w 9 83 5 s Try.underlying9 Try.underlying83 Try.underlying5
 have HN : Aside0 (X.BL (Lib.bytesWorld w 5 s) w.heap.size 5 (bytesOf s)) := ⟨X.BL.new _ _ _⟩
 have HB0 : Aside0 (Below w.heap.size w (Lib.bytesWorld w 5 s)) := ⟨X.below_bytes _ _ _⟩
 have HL : Aside0 ((bytesOf s).length = s.size) := ⟨bytesOf_length s⟩
 generalize Lib.bytesWorld w 5 s = w0 at hcv HN HB0
 generalize grownCap w s.size 0 5 = cp at hcv
 generalize hA : bytesOf s = A at HN HL
 have HA := Aside0.mk hA
 clear hA
 go_enter Try.func44, Try.ntmps44
 go_wp2
 go_loopw [11] (fun v wr => ∃ k : Nat, k ≤ s.size ∧ v = .int .i64 (k : Int) ∧ Aside0 (X.BL wr w.heap.size 5 ((A.take k).map g ++ A.drop k)) ∧ Aside0 (Below w.heap.size w wr)) (fun v _ => s.size - (intOf v).toNat)
 case atStart => exact ⟨0, Nat.zero_le _, rfl, by simpa using HN, HB0⟩
 case round =>
  clear hcv HN HB0
  obtain ⟨k, hk, rfl, HC, HB⟩ := hrel
  by_cases hlt : k < s.size
  ·have hkA : k < A.length := by rw [HL.out]; exact hlt
   obtain ⟨hml, hmg⟩ := X.map_at g A k hkA
   have hkL : k < ((A.take k).map g ++ A.drop k).length := by rw [hml]; exact hkA
   have hcell := HC.out.cell hkL
   rw [hmg hkL] at hcell
   have hfr := HC.out.frozen hkL
   have HS := Aside0.mk (HC.out.set_ hkL (g (A[k]'hkA)))
   have HS2 : Aside0 (X.BL (wr.setCell ⟨w.heap.size, k, none⟩ (.int .u8 (g (A[k]'hkA)))) w.heap.size 5 ((A.take (k + 1)).map g ++ A.drop (k + 1))) := ⟨by rw [← X.map_step g A k hkA]; exact HS.out⟩
   have hr : 0 ≤ A[k]'hkA ∧ A[k]'hkA ≤ 255 := by
    have := HA.out
    subst this
    simp [bytesOf]
    have := (s.data[k]).toNat_lt
    omega
   have hr0 := Aside0.mk hr.1
   have hr1 := Aside0.mk hr.2
   clear hr HS hml hmg
   generalize A[k]'hkA = c at hcell HS2 hr0 hr1
   clear hkA hkL
   have hz : ((k : Int) + 1) ≤ 9223372036854775807 := by omega
   go_wp2_with (go_at_call 45; refine (hF _ _ hr0.out hr1.out).mono ?_; rintro e w2 ⟨rfl, rfl⟩)
   go_roundw
   case rel => exact ⟨k + 1, by omega, by go_num, HS2, ⟨HB.out.setCell (Nat.le_refl _) _⟩⟩
   case measure => simp [intOf]; omega
  ·obtain rfl : k = s.size := by omega
   have hb := HC.out
   rw [List.take_of_length_le (by rw [HL.out]; exact Nat.le_refl _), List.drop_eq_nil_of_le (by rw [HL.out]; exact Nat.le_refl _), List.append_nil] at hb
   have hcv := hb.str (P := Try.prog) 83 5 9 Try.underlying83 Try.underlying5 Try.underlying9 cp
   rw [List.length_map, HL.out, ← HA.out] at hcv
   clear hb
   go_wp2
   go_ret
   exact ⟨rfl, HB.out⟩
def value_Upper_1.f (a0 : Int) : Option (Int) := if a0 ≥ 97 then (if a0 ≤ 122 then (some ((((a0 - 97) % 256) + 65) % 256)) else (some a0)) else (some a0)
set_option maxHeartbeats 8000000 in
set_option maxRecDepth 100000 in
theorem value_Upper_1.calls (a0 : Int) (r : Int) (w : World) (h : value_Upper_1.f a0 = some r) :
  Calls Try.prog 45 #[.int .u8 a0] w fun e w' => e = .returned (.int .u8 r) ∧ Drawn0 w w' := by
 have H : (if a0 ≥ 97 then (if a0 ≤ 122 then (some ((((a0 - 97) % 256) + 65) % 256)) else (some a0)) else (some a0)) = some r := h
 clear h
 by_cases c2 : a0 ≥ 97
 ·rw [if_pos c2] at H
  have c2b0 : decide (97 ≤ a0) = true := decide_eq_true c2
  clear c2
  by_cases c3 : a0 ≤ 122
  ·rw [if_pos c3] at H
   have c3b0 : decide (a0 ≤ 122) = true := decide_eq_true c3
   clear c3
   obtain rfl := Option.some.inj H
   go_enter Try.func45, Try.ntmps45
   go_wp2
   go_ret
   exact ⟨zrl, zdn⟩
  ·rw [if_neg c3] at H
   have c3b0 : decide (a0 ≤ 122) = false := decide_eq_false c3
   clear c3
   obtain rfl := Option.some.inj H
   go_enter Try.func45, Try.ntmps45
   go_wp2
   go_ret
   exact ⟨zrl, zdn⟩
 ·rw [if_neg c2] at H
  have c2b0 : decide (97 ≤ a0) = false := decide_eq_false c2
  clear c2
  obtain rfl := Option.some.inj H
  go_enter Try.func45, Try.ntmps45
  go_wp2
  go_ret
  exact ⟨zrl, zdn⟩
def value_Upper.f (a0 : ByteArray) : Option (ByteArray) := if a0.size ≤ 9223372036854775807 then some (X.mapS X.gUpper a0) else none
set_option maxRecDepth 100000 in
theorem value_Upper.one (c : Int) (w : World) (h0 : 0 ≤ c) (h1 : c ≤ 255) : Calls Try.prog 45 #[.int .u8 c] w fun e w' => e = .returned (.int .u8 (X.gUpper c)) ∧ w = w' := by
 unfold X.gUpper
 by_cases c0 : 97 ≤ c
 ·have c0b : decide (c ≥ 97) = true := decide_eq_true c0
  by_cases c1 : c ≤ 122
  ·have c1b : decide (c ≤ 122) = true := decide_eq_true c1
   rw [if_pos ⟨c0, c1⟩]
   go_enter Try.func45, Try.ntmps45
   go_wp2
   go_ret
   exact ⟨by rw [show c - 32 = c - 97 + 65 by omega]; rfl, rfl⟩
  ·have c1b : decide (c ≤ 122) = false := decide_eq_false c1
   rw [if_neg (fun h => c1 h.2)]
   go_enter Try.func45, Try.ntmps45
   go_wp2
   go_ret
   exact ⟨rfl, rfl⟩
 ·have c0b : decide (c ≥ 97) = false := decide_eq_false c0
  rw [if_neg (fun h => c0 h.1)]
  go_enter Try.func45, Try.ntmps45
  go_wp2
  go_ret
  exact ⟨rfl, rfl⟩
theorem value_Upper.calls (a0 : ByteArray) (r : ByteArray) (w : World) (h : value_Upper.f a0 = some r) :
  Calls Try.prog 30 #[.string a0] w fun e w' => e = .returned (.string r) ∧ Below w.heap.size w w' := by
 unfold value_Upper.f at h
 by_cases c0 : a0.size ≤ 9223372036854775807
 ·rw [if_pos c0] at h
  have H0 := Aside0.mk c0
  clear c0
  obtain rfl := Option.some.inj h
  have HM := value_mapped.callsUpper X.gUpper (value_Upper.one) a0 H0.out
  go_enter Try.func30, Try.ntmps30
  go_wp2_with (go_at_call 44; refine (HM _).mono ?_; rintro e w1 ⟨rfl, hb⟩)
  go_ret
  exact ⟨rfl, hb⟩
 ·rw [if_neg c0] at h
  cases h
end Go.Proofs.Ytkkfclpodgagdaa.P
