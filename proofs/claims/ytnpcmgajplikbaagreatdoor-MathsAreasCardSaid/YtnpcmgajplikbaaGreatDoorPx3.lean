-- Written by a program of this session (wip/tools/xprint.py), out of the seat's translation. Not trusted: Lean checks it.
import Derived.Test.YtnpcmgajplikbaaGreatDoorPx0
import Derived.Test.YtnpcmgajplikbaaGreatDoorPx2
namespace Go.Proofs.YtnpcmgajplikbaaGreatDoor.P
open Go.RowKit Go.Proofs.YtnpcmgajplikbaaGreatDoorW.PrintWords Go.Proofs.YtnpcmgajplikbaaGreatDoorW.PrintLast Go.Proofs.YtnpcmgajplikbaaGreatDoorW.PrintMore
attribute [local go_sem] max2_int min2_int max_two min_two max_three min_three max_four min_four X.binOp_str_gtr X.binOp_str_leq   -- for this text's walks alone
set_option linter.unusedVariables false
set_option linter.unusedSimpArgs false

/-! ### value_own: function 58 -/
theorem value_own.k0 (n : Int) (s : ByteArray) (w : World) :
    Calls Tryz.prog 58 #[.agg #[.int .i64 0, .int .i64 n, .string s]] w fun e w' => e = .returned (.iface 68 (.agg #[])) ∧ Below w.heap.size w w' := by
  have hu := Tryz.underlying26
  have hub := Tryz.underlying68
  go_enter Tryz.func58, Tryz.ntmps58
  go_wp2
  go_ret
  exact ⟨rfl, (Below.refl _ _).alloc (Nat.le_refl _) _⟩
theorem value_own.k1 (n : Int) (s : ByteArray) (w : World) :
    Calls Tryz.prog 58 #[.agg #[.int .i64 1, .int .i64 n, .string s]] w fun e w' => e = .returned (.iface 69 (.int .i64 n)) ∧ Below w.heap.size w w' := by
  have hu := Tryz.underlying26
  go_enter Tryz.func58, Tryz.ntmps58
  go_wp2
  go_ret
  exact ⟨rfl, (Below.refl _ _).alloc (Nat.le_refl _) _⟩
theorem value_own.k2 (n : Int) (s : ByteArray) (w : World) :
    Calls Tryz.prog 58 #[.agg #[.int .i64 2, .int .i64 n, .string s]] w fun e w' => e = .returned (.iface 70 (.string s)) ∧ Below w.heap.size w w' := by
  have hu := Tryz.underlying26
  go_enter Tryz.func58, Tryz.ntmps58
  go_wp2
  go_ret
  exact ⟨rfl, (Below.refl _ _).alloc (Nat.le_refl _) _⟩
theorem value_own.k3 (n : Int) (s : ByteArray) (w : World) :
    Calls Tryz.prog 58 #[.agg #[.int .i64 3, .int .i64 n, .string s]] w fun e w' => e = .returned (.iface 71 (.bool (n != 0))) ∧ Below w.heap.size w w' := by
  have hu := Tryz.underlying26
  go_enter Tryz.func58, Tryz.ntmps58
  go_wp2
  go_ret
  exact ⟨rfl, (Below.refl _ _).alloc (Nat.le_refl _) _⟩
theorem value_own.k4 (n : Int) (s : ByteArray) (w : World) :
    Calls Tryz.prog 58 #[.agg #[.int .i64 4, .int .i64 n, .string s]] w fun e w' => e = .returned (.iface 72 (.int .i64 n)) ∧ Below w.heap.size w w' := by
  have hu := Tryz.underlying26
  go_enter Tryz.func58, Tryz.ntmps58
  go_wp2
  go_ret
  exact ⟨rfl, (Below.refl _ _).alloc (Nat.le_refl _) _⟩
theorem value_own.kx (k n : Int) (s : ByteArray) (h0 : (k == 0) = false) (h1 : (k == 1) = false) (h2 : (k == 2) = false) (h3 : (k == 3) = false) (h4 : (k == 4) = false) (w : World) :
    Calls Tryz.prog 58 #[.agg #[.int .i64 k, .int .i64 n, .string s]] w fun e w' => e = .returned .nilIface ∧ Below w.heap.size w w' := by
  have hu := Tryz.underlying26
  go_enter Tryz.func58, Tryz.ntmps58
  go_wp2
  go_ret
  exact ⟨rfl, (Below.refl _ _).alloc (Nat.le_refl _) _⟩
/-- what the callee left of the block of the argument -/
theorem value_own.kept {w w1 : World} {cs : Array Value} {t : Nat} (h : Below (w.alloc (.cells cs t)).heap.size (w.alloc (.cells cs t)) w1) :
    (∀ o, w1.cell? ⟨w.heap.size, o, none⟩ = cs[o]?) ∧ Below w.heap.size w w1 ∧ w.heap.size < w1.heap.size := by
  refine ⟨fun o => ?_, ((Below.refl _ _).alloc (Nat.le_refl _) _).trans (h.mono (by simp)), by have := h.size; simp at this; omega⟩
  rw [h.cell (p := ⟨w.heap.size, o, none⟩) (by simp)]
  exact cell_of_row _ _ o cs t (0, 0) (heap_alloc_new w _)
set_option maxRecDepth 100000 in
theorem value_own.ta0 : (∀ (v : Value) (W : World), (Instr.typeAssert (.iface 68 v) 20 68 true).run Tryz.prog W = .ok (.tuple #[v, .bool true]) W) ∧ (∀ (v : Value) (W : World), (Instr.typeAssert (.iface 68 v) 20 69 true).run Tryz.prog W = .ok (.tuple #[.int .i64 0, .bool false]) W) ∧ (∀ (v : Value) (W : World), (Instr.typeAssert (.iface 68 v) 20 70 true).run Tryz.prog W = .ok (.tuple #[.string ⟨#[]⟩, .bool false]) W) ∧ (∀ (v : Value) (W : World), (Instr.typeAssert (.iface 68 v) 20 71 true).run Tryz.prog W = .ok (.tuple #[.bool false, .bool false]) W) ∧ (∀ (v : Value) (W : World), (Instr.typeAssert (.iface 68 v) 20 72 true).run Tryz.prog W = .ok (.tuple #[.int .i64 0, .bool false]) W) := ⟨fun v W => by rfl, fun v W => by rfl, fun v W => by rfl, fun v W => by rfl, fun v W => by rfl⟩
set_option maxRecDepth 100000 in
theorem value_own.ta1 : (∀ (v : Value) (W : World), (Instr.typeAssert (.iface 69 v) 20 68 true).run Tryz.prog W = .ok (.tuple #[.agg #[], .bool false]) W) ∧ (∀ (v : Value) (W : World), (Instr.typeAssert (.iface 69 v) 20 69 true).run Tryz.prog W = .ok (.tuple #[v, .bool true]) W) ∧ (∀ (v : Value) (W : World), (Instr.typeAssert (.iface 69 v) 20 70 true).run Tryz.prog W = .ok (.tuple #[.string ⟨#[]⟩, .bool false]) W) ∧ (∀ (v : Value) (W : World), (Instr.typeAssert (.iface 69 v) 20 71 true).run Tryz.prog W = .ok (.tuple #[.bool false, .bool false]) W) ∧ (∀ (v : Value) (W : World), (Instr.typeAssert (.iface 69 v) 20 72 true).run Tryz.prog W = .ok (.tuple #[.int .i64 0, .bool false]) W) := ⟨fun v W => by rfl, fun v W => by rfl, fun v W => by rfl, fun v W => by rfl, fun v W => by rfl⟩
set_option maxRecDepth 100000 in
theorem value_own.ta2 : (∀ (v : Value) (W : World), (Instr.typeAssert (.iface 70 v) 20 68 true).run Tryz.prog W = .ok (.tuple #[.agg #[], .bool false]) W) ∧ (∀ (v : Value) (W : World), (Instr.typeAssert (.iface 70 v) 20 69 true).run Tryz.prog W = .ok (.tuple #[.int .i64 0, .bool false]) W) ∧ (∀ (v : Value) (W : World), (Instr.typeAssert (.iface 70 v) 20 70 true).run Tryz.prog W = .ok (.tuple #[v, .bool true]) W) ∧ (∀ (v : Value) (W : World), (Instr.typeAssert (.iface 70 v) 20 71 true).run Tryz.prog W = .ok (.tuple #[.bool false, .bool false]) W) ∧ (∀ (v : Value) (W : World), (Instr.typeAssert (.iface 70 v) 20 72 true).run Tryz.prog W = .ok (.tuple #[.int .i64 0, .bool false]) W) := ⟨fun v W => by rfl, fun v W => by rfl, fun v W => by rfl, fun v W => by rfl, fun v W => by rfl⟩
set_option maxRecDepth 100000 in
theorem value_own.ta3 : (∀ (v : Value) (W : World), (Instr.typeAssert (.iface 71 v) 20 68 true).run Tryz.prog W = .ok (.tuple #[.agg #[], .bool false]) W) ∧ (∀ (v : Value) (W : World), (Instr.typeAssert (.iface 71 v) 20 69 true).run Tryz.prog W = .ok (.tuple #[.int .i64 0, .bool false]) W) ∧ (∀ (v : Value) (W : World), (Instr.typeAssert (.iface 71 v) 20 70 true).run Tryz.prog W = .ok (.tuple #[.string ⟨#[]⟩, .bool false]) W) ∧ (∀ (v : Value) (W : World), (Instr.typeAssert (.iface 71 v) 20 71 true).run Tryz.prog W = .ok (.tuple #[v, .bool true]) W) ∧ (∀ (v : Value) (W : World), (Instr.typeAssert (.iface 71 v) 20 72 true).run Tryz.prog W = .ok (.tuple #[.int .i64 0, .bool false]) W) := ⟨fun v W => by rfl, fun v W => by rfl, fun v W => by rfl, fun v W => by rfl, fun v W => by rfl⟩
set_option maxRecDepth 100000 in
theorem value_own.ta4 : (∀ (v : Value) (W : World), (Instr.typeAssert (.iface 72 v) 20 68 true).run Tryz.prog W = .ok (.tuple #[.agg #[], .bool false]) W) ∧ (∀ (v : Value) (W : World), (Instr.typeAssert (.iface 72 v) 20 69 true).run Tryz.prog W = .ok (.tuple #[.int .i64 0, .bool false]) W) ∧ (∀ (v : Value) (W : World), (Instr.typeAssert (.iface 72 v) 20 70 true).run Tryz.prog W = .ok (.tuple #[.string ⟨#[]⟩, .bool false]) W) ∧ (∀ (v : Value) (W : World), (Instr.typeAssert (.iface 72 v) 20 71 true).run Tryz.prog W = .ok (.tuple #[.bool false, .bool false]) W) ∧ (∀ (v : Value) (W : World), (Instr.typeAssert (.iface 72 v) 20 72 true).run Tryz.prog W = .ok (.tuple #[v, .bool true]) W) := ⟨fun v W => by rfl, fun v W => by rfl, fun v W => by rfl, fun v W => by rfl, fun v W => by rfl⟩
set_option maxRecDepth 100000 in
theorem value_own.tax : (∀ (W : World), (Instr.typeAssert .nilIface 20 68 true).run Tryz.prog W = .ok (.tuple #[.agg #[], .bool false]) W) ∧ (∀ (W : World), (Instr.typeAssert .nilIface 20 69 true).run Tryz.prog W = .ok (.tuple #[.int .i64 0, .bool false]) W) ∧ (∀ (W : World), (Instr.typeAssert .nilIface 20 70 true).run Tryz.prog W = .ok (.tuple #[.string ⟨#[]⟩, .bool false]) W) ∧ (∀ (W : World), (Instr.typeAssert .nilIface 20 71 true).run Tryz.prog W = .ok (.tuple #[.bool false, .bool false]) W) ∧ (∀ (W : World), (Instr.typeAssert .nilIface 20 72 true).run Tryz.prog W = .ok (.tuple #[.int .i64 0, .bool false]) W) := ⟨fun W => by rfl, fun W => by rfl, fun W => by rfl, fun W => by rfl, fun W => by rfl⟩
/-! ### value_ToNum: function 115 -/
def value_ToNum.f (k : Nat) (a0_0 : Int) (a0_1 : Int) (a0_2 : ByteArray) : Option (Int × Int) := if a0_0 = 0 then (some (0, 0)) else (if a0_0 = 1 then (some (a0_1, 0)) else (if a0_0 = 3 then (if a0_1 = 0 then (some (0, 0)) else (some (10000, 0))) else (if a0_0 = 2 then ((num_Parse.f k a0_2).bind fun bt => (if bt.2 = true then (some (bt.1, 0)) else (some (0, 2)))) else (if a0_0 = 4 then (some (0, a0_1)) else (some (0, 2))))))
theorem value_ToNum.mono : ∀ a0 a1 a2 k, LeO (value_ToNum.f k a0 a1 a2) (value_ToNum.f (k + 1) a0 a1 a2) := by
  intro a0 a1 a2 k
  unfold value_ToNum.f
  repeat' first
      | (with_reducible exact num_Parse.mono _ _)
      | (with_reducible exact LeO.refl _)
      | (with_reducible exact LeO.none _)
      | (with_reducible refine LeO.ite ?_ ?_)
      | (with_reducible refine LeO.bind ?_ (fun _ => ?_))
set_option maxHeartbeats 8000000 in
set_option maxRecDepth 100000 in
theorem value_ToNum.calls (k : Nat) (a0_0 : Int) (a0_1 : Int) (a0_2 : ByteArray) (r1 : Int) (r2 : Int) (w : World) (h : value_ToNum.f k a0_0 a0_1 a0_2 = some (r1, r2)) :
    Calls Tryz.prog 115 #[.agg #[.int .i64 a0_0, .int .i64 a0_1, .string a0_2]] w fun e w' => e = .returned (.tuple #[.int .i64 r1, .int .i64 r2]) ∧ Below w.heap.size w w' := by
  unfold value_ToNum.f at h
  have hu := Tryz.underlying26
  have hub := Tryz.underlying68
  by_cases c0 : a0_0 = 0
  · subst c0
    rw [if_pos rfl] at h
    simp only [Option.some.injEq, Prod.mk.injEq] at h
    obtain ⟨rfl, rfl⟩ := h
    obtain ⟨ta0, ta1, ta2, ta3, ta4⟩ := value_own.ta0
    go_enter Tryz.func115, Tryz.ntmps115
    go_wp2_with (go_at_call 58; refine (value_own.k0 _ _ _).mono ?_; rintro e w1 ⟨rfl, hb⟩; obtain ⟨hc, hb1, hz⟩ := value_own.kept hb; clear hb)
    go_ret2
    exact ⟨rfl, hb1.alloc hb1.size _⟩
  rw [if_neg c0] at h
  by_cases c1 : a0_0 = 1
  · subst c1
    rw [if_pos rfl] at h
    simp only [Option.some.injEq, Prod.mk.injEq] at h
    obtain ⟨rfl, rfl⟩ := h
    obtain ⟨ta0, ta1, ta2, ta3, ta4⟩ := value_own.ta1
    go_enter Tryz.func115, Tryz.ntmps115
    go_wp2_with (go_at_call 58; refine (value_own.k1 _ _ _).mono ?_; rintro e w1 ⟨rfl, hb⟩; obtain ⟨hc, hb1, hz⟩ := value_own.kept hb; clear hb)
    go_ret2
    exact ⟨rfl, hb1⟩
  rw [if_neg c1] at h
  by_cases c3 : a0_0 = 3
  · subst c3
    rw [if_pos rfl] at h
    by_cases d : a0_1 = 0
    · rw [if_pos d] at h
      have d0 : (a0_1 != 0) = false := bne_eq_false_iff_eq.mpr d
      clear d
      simp only [Option.some.injEq, Prod.mk.injEq] at h
      obtain ⟨rfl, rfl⟩ := h
      obtain ⟨ta0, ta1, ta2, ta3, ta4⟩ := value_own.ta3
      go_enter Tryz.func115, Tryz.ntmps115
      go_wp2_with (go_at_call 58; refine (value_own.k3 _ _ _).mono ?_; rintro e w1 ⟨rfl, hb⟩; obtain ⟨hc, hb1, hz⟩ := value_own.kept hb; clear hb)
      go_ret2
      exact ⟨rfl, hb1⟩
    · rw [if_neg d] at h
      have d0 : (a0_1 != 0) = true := bne_iff_ne.mpr d
      clear d
      simp only [Option.some.injEq, Prod.mk.injEq] at h
      obtain ⟨rfl, rfl⟩ := h
      obtain ⟨ta0, ta1, ta2, ta3, ta4⟩ := value_own.ta3
      go_enter Tryz.func115, Tryz.ntmps115
      go_wp2_with (go_at_call 58; refine (value_own.k3 _ _ _).mono ?_; rintro e w1 ⟨rfl, hb⟩; obtain ⟨hc, hb1, hz⟩ := value_own.kept hb; clear hb)
      go_ret2
      exact ⟨rfl, hb1⟩
  rw [if_neg c3] at h
  by_cases c2 : a0_0 = 2
  · subst c2
    rw [if_pos rfl] at h
    obtain ⟨⟨t, b⟩, hp, h⟩ := Option.bind_eq_some_iff.mp h
    have HP := Aside0.mk hp
    clear hp
    cases b with
    | true =>
      rw [if_pos rfl] at h
      simp only [Option.some.injEq, Prod.mk.injEq] at h
      obtain ⟨rfl, rfl⟩ := h
      obtain ⟨ta0, ta1, ta2, ta3, ta4⟩ := value_own.ta2
      go_enter Tryz.func115, Tryz.ntmps115
      go_wp2_with (first
        | (go_at_call 58; refine (value_own.k2 _ _ _).mono ?_; rintro e w1 ⟨rfl, hb⟩; obtain ⟨hc, hb1, hz⟩ := value_own.kept hb; clear hb)
        | (go_at_call 128; refine (num_Parse.calls _ _ _ _ _ HP.out).mono ?_; rintro e w2 ⟨rfl, hb2⟩))
      go_ret2
      exact ⟨rfl, hb1.trans (hb2.mono hb1.size)⟩
    | false =>
      rw [if_neg Bool.false_ne_true] at h
      simp only [Option.some.injEq, Prod.mk.injEq] at h
      obtain ⟨rfl, rfl⟩ := h
      obtain ⟨ta0, ta1, ta2, ta3, ta4⟩ := value_own.ta2
      go_enter Tryz.func115, Tryz.ntmps115
      go_wp2_with (first
        | (go_at_call 58; refine (value_own.k2 _ _ _).mono ?_; rintro e w1 ⟨rfl, hb⟩; obtain ⟨hc, hb1, hz⟩ := value_own.kept hb; clear hb)
        | (go_at_call 128; refine (num_Parse.calls _ _ _ _ _ HP.out).mono ?_; rintro e w2 ⟨rfl, hb2⟩))
      go_ret2
      exact ⟨rfl, hb1.trans (hb2.mono hb1.size)⟩
  rw [if_neg c2] at h
  by_cases c4 : a0_0 = 4
  · subst c4
    rw [if_pos rfl] at h
    simp only [Option.some.injEq, Prod.mk.injEq] at h
    obtain ⟨rfl, rfl⟩ := h
    obtain ⟨ta0, ta1, ta2, ta3, ta4⟩ := value_own.ta4
    go_enter Tryz.func115, Tryz.ntmps115
    go_wp2_with (go_at_call 58; refine (value_own.k4 _ _ _).mono ?_; rintro e w1 ⟨rfl, hb⟩; obtain ⟨hc, hb1, hz⟩ := value_own.kept hb; clear hb)
    go_ret2
    exact ⟨rfl, hb1⟩
  rw [if_neg c4] at h
  simp only [Option.some.injEq, Prod.mk.injEq] at h
  obtain ⟨rfl, rfl⟩ := h
  have HX := fun w => value_own.kx a0_0 a0_1 a0_2 (beq_eq_false_iff_ne.mpr c0) (beq_eq_false_iff_ne.mpr c1) (beq_eq_false_iff_ne.mpr c2) (beq_eq_false_iff_ne.mpr c3) (beq_eq_false_iff_ne.mpr c4) w
  clear c0 c1 c2 c3 c4
  obtain ⟨ta0, ta1, ta2, ta3, ta4⟩ := value_own.tax
  go_enter Tryz.func115, Tryz.ntmps115
  go_wp2_with (go_at_call 58; refine (HX _).mono ?_; rintro e w1 ⟨rfl, hb⟩; obtain ⟨hc, hb1, hz⟩ := value_own.kept hb; clear hb)
  go_ret2
  exact ⟨rfl, hb1⟩
end Go.Proofs.YtnpcmgajplikbaaGreatDoor.P
