-- Written by a program of this session (wip/tools/xprint.py), out of the seat's translation. Not trusted: Lean checks it.
import Derived.Test.YtficjmgofbdohaaDoorPx0
import Derived.Test.YtficjmgofbdohaaDoorPx1
import Derived.Test.YtficjmgofbdohaaDoorPx2
import Derived.Test.YtficjmgofbdohaaDoorPx4
namespace Go.Proofs.YtficjmgofbdohaaDoor.P
open Go.RowKit Go.Proofs.YtficjmgofbdohaaDoorW.PrintWords Go.Proofs.YtficjmgofbdohaaDoorW.PrintLast Go.Proofs.YtficjmgofbdohaaDoorW.PrintMore
attribute [local go_sem] max2_int min2_int max_two min_two max_three min_three max_four min_four   -- for this text's walks alone
set_option linter.unusedVariables false
set_option linter.unusedSimpArgs false

/-! ### num_Pow: function 21 -/
def num_Pow.pows (k : Nat) : Nat → Int → Bool → Int → Option (Int × Bool)
  | 0, p, ok, _ => some (p, ok)
  | n + 1, p, ok, a => if ok = true then ((num_Mul.f k p a).bind fun t => num_Pow.pows k n t.1 t.2 a) else num_Pow.pows k n p ok a
def num_Pow.f (k : Nat) (a0 : Int) (a1 : Int) : Option (Int × Bool) := (num_Whole.f a1).bind fun t => ((num_Good.f a0).bind fun g =>
  (if t.2 = true ∧ g = true ∧ -64 ≤ t.1 ∧ t.1 ≤ 64 ∧ ¬ (a0 = 0 ∧ t.1 = 0) then ((num_Pow.pows k (max t.1 (-t.1)).toNat 10000 true a0).bind fun q =>
    (if q.2 = true then (if t.1 < 0 then (num_Div.f k 10000 q.1) else some (q.1, true)) else some (0, false))) else some (0, false)))
theorem num_Pow.mono_p : ∀ n p ok a k, LeO (num_Pow.pows k n p ok a) (num_Pow.pows (k + 1) n p ok a) := by
  intro n
  induction n with
  | zero => intro p ok a k; exact LeO.refl _
  | succ n ih =>
    intro p ok a k
    simp only [num_Pow.pows]
    exact LeO.ite (LeO.bind (num_Mul.mono _ _ _) (fun _ => ih _ _ _ _)) (ih _ _ _ _)
theorem num_Pow.mono : ∀ a0 a1 k, LeO (num_Pow.f k a0 a1) (num_Pow.f (k + 1) a0 a1) := by
  intro a0 a1 k
  unfold num_Pow.f
  exact LeO.bind (LeO.refl _) (fun _ => LeO.bind (LeO.refl _) (fun _ => LeO.ite (LeO.bind (num_Pow.mono_p _ _ _ _ _) (fun _ => LeO.ite (LeO.ite (num_Div.mono _ _ _) (LeO.refl _)) (LeO.refl _))) (LeO.refl _)))
def num_Pow.In (w w' : World) (B bo bp ba : Nat) (ok : Bool) (p a : Int) : Prop := X.Blk w' bo 4 #[.bool ok] ∧ X.Blk w' bp 3 #[.int .i64 p] ∧ X.Blk w' ba 3 #[.int .i64 a] ∧ Below B w w'
set_option maxHeartbeats 8000000 in
set_option maxRecDepth 100000 in
theorem num_Pow.times (k : Nat) (n : Nat) (m : Int) (hm : m = (n : Int)) (ok : Bool) (p a : Int) (r : Int × Bool) (w0 w : World) (B bo bp ba : Nat) (h : num_Pow.pows k n p ok a = some r) (hn : (n : Int) ≤ 64)
    (hb : B ≤ bo) (hb2 : B ≤ bp) (hd1 : bo ≠ bp) (hd2 : bo ≠ ba) (hd3 : bp ≠ ba) (hw : num_Pow.In w0 w B bo bp ba ok p a) :
    Calls Tryd.prog 58 #[.int .i64 m, .pointer (some ⟨bo, 0, none⟩), .pointer (some ⟨bp, 0, none⟩), .pointer (some ⟨ba, 0, none⟩)] w fun e w' => e = .returned (.tuple #[]) ∧ num_Pow.In w0 w' B bo bp ba r.2 r.1 a := by
  subst hm
  have H' := Aside0.mk h
  have HW := Aside0.mk hw
  have HD := Aside0.mk (And.intro hd1 (And.intro hd2 hd3))
  have HBB := Aside0.mk (And.intro hb hb2)
  clear h hw hd1 hd2 hd3 hb hb2
  go_enter Tryd.func58, Tryd.ntmps58
  go_wp2
  go_loopg [6] n (fun g v6 w' => ∃ (i : Int) (ok' : Bool) (p' : Int), v6 = .int .i64 i ∧ Aside0 ((g : Int) + i = n ∧ 0 ≤ i) ∧ Aside0 (num_Pow.pows k g p' ok' a = some r) ∧ Aside0 (num_Pow.In w0 w' B bo bp ba ok' p' a))
  case atStart => exact ⟨0, ok, p, rfl, ⟨by omega⟩, H', HW⟩
  case round =>
    clear H' HW
    obtain ⟨i, ok', p', rfl, HI, HA, HW⟩ := hrel
    have hi := HI.out
    obtain ⟨b1, b2, b3, b4⟩ := HW.out
    have c1 := b1.cell 0
    have c2 := b2.cell 0
    have c3 := b3.cell 0
    have f1 := b1.frozen 0
    have f2 := b2.frozen 0
    simp only [List.getElem?_toArray, List.getElem?_cons_zero] at c1 c2 c3
    cases gk with
    | zero =>
      have c : decide (i < (n : Int)) = false := decide_eq_false (by omega)
      have hr := Option.some.inj HA.out
      subst hr
      clear hi b1 b2 b3 b4
      go_wp2
      go_end0
      exact ⟨rfl, HW.out⟩
    | succ g =>
      have c : decide (i < (n : Int)) = true := decide_eq_true (by omega)
      have H := HA.out
      simp only [num_Pow.pows] at H
      cases ok' with
      | false =>
        have H1 := Aside0.mk (show num_Pow.pows k g p' false a = some r from by simpa using H)
        clear H
        have i1 : i + 1 ≤ 64 := by omega
        have i0 : 0 ≤ i := by omega
        clear hi b1 b2 b3 b4
        go_wp2
        go_roundg g
        case measure => omega
        case rel => exact ⟨_, _, _, rfl, ⟨by have := HI.out; omega⟩, H1, HW⟩
      | true =>
        rw [if_pos rfl] at H
        obtain ⟨⟨t1, t2⟩, A10, H⟩ := Option.bind_eq_some_iff.mp H
        have A1 := Aside0.mk A10
        have H1 := Aside0.mk H
        clear H A10
        have i1 : i + 1 ≤ 64 := by omega
        have i0 : 0 ≤ i := by omega
        clear hi b1 b2 b3 b4
        go_wp2_with (first | (go_at_call 17; refine (num_Mul.calls k p' a t1 t2 _ A1.out).mono ?_; rintro e w1 ⟨rfl, hb⟩; have Hb := Aside0.mk hb; have B1' := Aside0.mk ((HW.out.1).below hb (HW.out.1).lt); have B2' := Aside0.mk ((HW.out.2.1).below hb (HW.out.2.1).lt); have B3' := Aside0.mk ((HW.out.2.2.1).below hb (HW.out.2.2.1).lt); have d1 : ∀ v, (w1.setCell ⟨bp, 0, none⟩ v).cell? ⟨bo, 0, none⟩ = some (.bool true) := (fun v => ((B1'.out).far (p := ⟨bp, 0, none⟩) HD.out.1 v).cell 0); have d2 : w1.cell? ⟨bp, 0, none⟩ = some (.int .i64 p') := (B2'.out).cell 0; have g1 : ∀ v, (w1.setCell ⟨bp, 0, none⟩ v).frozen? ⟨bo, 0, none⟩ = false := (fun v => ((B1'.out).far (p := ⟨bp, 0, none⟩) HD.out.1 v).frozen 0); have g2 := (B2'.out).frozen 0; clear hb))
        go_roundg g
        case measure => omega
        case rel =>
          refine ⟨_, _, _, rfl, ⟨by have := HI.out; omega⟩, H1, ⟨?_⟩⟩
          have hh := HD.out
          refine ⟨(((B1'.out).far (p := ⟨bp, 0, none⟩) hh.1 _).set_ 0 _), (((B2'.out).set_ 0 _).far (p := ⟨bo, 0, none⟩) (Ne.symm hh.1) _), (((B3'.out).far (p := ⟨bp, 0, none⟩) (Ne.symm hh.2.2) _).far (p := ⟨bo, 0, none⟩) (Ne.symm hh.2.1) _), ?_⟩
          exact ((HW.out.2.2.2.trans (Hb.out.mono (Nat.le_of_lt (Nat.lt_of_le_of_lt HBB.out.1 (HW.out.1).lt)))).setCell HBB.out.2 _).setCell HBB.out.1 _
theorem num_Pow.start (w : World) (nd nd2 : Nat) (a0 : Int) : num_Pow.In w (((((w.alloc (Obj.cells #[Value.int IntKind.i64 a0] 3)).drewN nd).alloc (Obj.cells #[Value.bool true] 4)).drewN nd2).alloc (Obj.cells #[Value.int IntKind.i64 10000] 3)) w.heap.size (w.heap.size + 1) (w.heap.size + 1 + 1) w.heap.size true 10000 a0 := by
  have h1 := (((X.Blk.new ((w.alloc (Obj.cells #[Value.int IntKind.i64 a0] 3)).drewN nd) 4 #[Value.bool true]).drewN nd2).alloc (Obj.cells #[Value.int IntKind.i64 10000] 3))
  have h2 := X.Blk.new ((((w.alloc (Obj.cells #[Value.int IntKind.i64 a0] 3)).drewN nd).alloc (Obj.cells #[Value.bool true] 4)).drewN nd2) 3 #[Value.int IntKind.i64 10000]
  have h3 := ((((X.Blk.new w 3 #[Value.int IntKind.i64 a0]).drewN nd).alloc (Obj.cells #[Value.bool true] 4)).drewN nd2).alloc (Obj.cells #[Value.int IntKind.i64 10000] 3)
  refine ⟨by simpa using h1, by simpa using h2, h3, ?_⟩
  repeat (first | exact Below.refl _ _ | apply below_alloc | apply pw_below_drewN)
set_option maxHeartbeats 8000000 in
set_option maxRecDepth 100000 in
theorem num_Pow.calls (k : Nat) (a0 : Int) (a1 : Int) (r1 : Int) (r2 : Bool) (w : World) (h : num_Pow.f k a0 a1 = some (r1, r2)) :
    Calls Tryd.prog 21 #[.int .i64 a0, .int .i64 a1] w fun e w' => e = .returned (.tuple #[.int .i64 r1, .bool r2]) ∧ Below w.heap.size w w' := by
  unfold num_Pow.f at h
  obtain ⟨⟨t1, t2⟩, A10, h⟩ := Option.bind_eq_some_iff.mp h
  obtain ⟨g, A20, h⟩ := Option.bind_eq_some_iff.mp h
  have A1 := Aside0.mk A10
  have A2 := Aside0.mk A20
  clear A10 A20
  simp only at h
  have hmf : ∀ (fn : Fn) (first cap : Array Value) (w : World), (Instr.makeFunc fn first cap).run Tryd.prog w = .ok (.func fn first cap) w := fun _ _ _ _ => rfl
  cases t2 with
  | false =>
    rw [if_neg (by simp)] at h
    simp only [Option.some.injEq, Prod.mk.injEq] at h
    obtain ⟨rfl, rfl⟩ := h
    go_enter Tryd.func21, Tryd.ntmps21
    go_wp2_with (first | (go_at_call 26; refine (num_Whole.calls a1 t1 false _ A1.out).mono ?_; rintro e w1 ⟨rfl, nd, rfl⟩))
    go_ret2
    exact ⟨rfl, by repeat (first | exact Below.refl _ _ | apply below_alloc | apply pw_below_drewN | apply below_drew1 | refine Below.setCell ?_ (by simp) _)⟩
  | true =>
    cases g with
    | false =>
      rw [if_neg (by simp)] at h
      simp only [Option.some.injEq, Prod.mk.injEq] at h
      obtain ⟨rfl, rfl⟩ := h
      go_enter Tryd.func21, Tryd.ntmps21
      go_wp2_with (first | (go_at_call 26; refine (num_Whole.calls a1 t1 true _ A1.out).mono ?_; rintro e w1 ⟨rfl, nd, rfl⟩) | (go_at_call 14; refine (num_Good.calls a0 false _ A2.out).mono ?_; rintro e w1 ⟨rfl, nd2, rfl⟩))
      go_ret2
      exact ⟨rfl, by repeat (first | exact Below.refl _ _ | apply below_alloc | apply pw_below_drewN | apply below_drew1 | refine Below.setCell ?_ (by simp) _)⟩
    | true =>
      by_cases c1 : t1 < -64
      · rw [if_neg (by omega)] at h
        have c1b : decide (t1 < -64) = true := decide_eq_true c1
        clear c1
        simp only [Option.some.injEq, Prod.mk.injEq] at h
        obtain ⟨rfl, rfl⟩ := h
        go_enter Tryd.func21, Tryd.ntmps21
        go_wp2_with (first | (go_at_call 26; refine (num_Whole.calls a1 t1 true _ A1.out).mono ?_; rintro e w1 ⟨rfl, nd, rfl⟩) | (go_at_call 14; refine (num_Good.calls a0 true _ A2.out).mono ?_; rintro e w1 ⟨rfl, nd2, rfl⟩))
        go_ret2
        exact ⟨rfl, by repeat (first | exact Below.refl _ _ | apply below_alloc | apply pw_below_drewN | apply below_drew1 | refine Below.setCell ?_ (by simp) _)⟩
      · have c1b : decide (t1 < -64) = false := decide_eq_false c1
        by_cases c2 : 64 < t1
        · rw [if_neg (by omega)] at h
          have c2b : decide (64 < t1) = true := decide_eq_true c2
          clear c1 c2
          simp only [Option.some.injEq, Prod.mk.injEq] at h
          obtain ⟨rfl, rfl⟩ := h
          go_enter Tryd.func21, Tryd.ntmps21
          go_wp2_with (first | (go_at_call 26; refine (num_Whole.calls a1 t1 true _ A1.out).mono ?_; rintro e w1 ⟨rfl, nd, rfl⟩) | (go_at_call 14; refine (num_Good.calls a0 true _ A2.out).mono ?_; rintro e w1 ⟨rfl, nd2, rfl⟩))
          go_ret2
          exact ⟨rfl, by repeat (first | exact Below.refl _ _ | apply below_alloc | apply pw_below_drewN | apply below_drew1 | refine Below.setCell ?_ (by simp) _)⟩
        · have c2b : decide (64 < t1) = false := decide_eq_false c2
          by_cases c3 : a0 = 0 ∧ t1 = 0
          · rw [if_neg (by omega)] at h
            obtain ⟨rfl, rfl⟩ := c3
            clear c1 c2
            simp only [Option.some.injEq, Prod.mk.injEq] at h
            obtain ⟨rfl, rfl⟩ := h
            go_enter Tryd.func21, Tryd.ntmps21
            go_wp2_with (first | (go_at_call 26; refine (num_Whole.calls a1 0 true _ A1.out).mono ?_; rintro e w1 ⟨rfl, nd, rfl⟩) | (go_at_call 14; refine (num_Good.calls 0 true _ A2.out).mono ?_; rintro e w1 ⟨rfl, nd2, rfl⟩))
            go_ret2
            exact ⟨rfl, by repeat (first | exact Below.refl _ _ | apply below_alloc | apply pw_below_drewN | apply below_drew1 | refine Below.setCell ?_ (by simp) _)⟩
          · rw [if_pos ⟨rfl, rfl, by omega, by omega, c3⟩] at h
            obtain ⟨⟨q1, q2⟩, A30, h⟩ := Option.bind_eq_some_iff.mp h
            have A3 := Aside0.mk A30
            have HH := Aside0.mk h
            clear A30 h
            have m1 : -64 ≤ t1 := by omega
            have m2 : t1 ≤ 64 := by omega
            have hz : a0 = 0 ∨ (a0 ≠ 0) := by omega
            rcases hz with c4 | c4
            · have c4b : (a0 == 0) = true := beq_iff_eq.mpr c4
              have c5b : (t1 == 0) = false := beq_eq_false_iff_ne.mpr (fun e => c3 ⟨c4, e⟩)
              clear c3 c4 c1 c2
              by_cases c6 : t1 < 0
              · have c6b : decide (t1 < 0) = true := decide_eq_true c6
                have c7b : decide (t1 < -t1) = true := decide_eq_true (by omega)
                have c8b : (t1 < -t1) = True := eq_true (by omega)
                have c9b : (-t1 ≤ t1) = False := eq_false (by omega)
                have e3 : (max t1 (-t1)).toNat = (-t1).toNat := by omega
                rw [e3] at A3
                obtain ⟨n, hn⟩ : ∃ n : Nat, n = (-t1).toNat := ⟨_, rfl⟩
                rw [← hn] at A3
                have Hn := Aside0.mk hn
                have n64 : n ≤ 64 := by omega
                have nn : (n : Int) = -t1 := by omega
                have Nn := Aside0.mk nn
                clear hn e3 nn
                cases q2 with
                | false =>
                  have h := HH.out
                  rw [if_neg (by simp)] at h
                  simp only [Option.some.injEq, Prod.mk.injEq] at h
                  obtain ⟨rfl, rfl⟩ := h
                  clear c6
                  go_enter Tryd.func21, Tryd.ntmps21
                  go_wp2_with (first | (go_at_call 26; refine (num_Whole.calls a1 t1 true _ A1.out).mono ?_; rintro e w1 ⟨rfl, nd, rfl⟩) | (go_at_call 14; refine (num_Good.calls a0 true _ A2.out).mono ?_; rintro e w1 ⟨rfl, nd2, rfl⟩) | (go_at_call 58; refine (num_Pow.times k n (-t1) (by have := Nn.out; omega) true 10000 a0 (q1, false) w _ w.heap.size (w.heap.size + 1) (w.heap.size + 1 + 1) w.heap.size A3.out (by omega) (by omega) (by omega) (by omega) (by omega) (by omega) (num_Pow.start w nd nd2 a0)).mono ?_; rintro e w3 ⟨rfl, hin⟩; have HIN := Aside0.mk hin; have e1 : w3.cell? ⟨w.heap.size + 1, 0, none⟩ = some (.bool false) := (HIN.out.1).cell 0; have e2 : w3.cell? ⟨w.heap.size + 1 + 1, 0, none⟩ = some (.int .i64 q1) := (HIN.out.2.1).cell 0; clear hin))
                  go_ret2
                  exact ⟨rfl, HIN.out.2.2.2⟩
                | true =>
                  have h := HH.out
                  rw [if_pos rfl, if_pos c6] at h
                  have A4 := Aside0.mk h
                  clear h c6
                  go_enter Tryd.func21, Tryd.ntmps21
                  go_wp2_with (first | (go_at_call 26; refine (num_Whole.calls a1 t1 true _ A1.out).mono ?_; rintro e w1 ⟨rfl, nd, rfl⟩) | (go_at_call 14; refine (num_Good.calls a0 true _ A2.out).mono ?_; rintro e w1 ⟨rfl, nd2, rfl⟩) | (go_at_call 58; refine (num_Pow.times k n (-t1) (by have := Nn.out; omega) true 10000 a0 (q1, true) w _ w.heap.size (w.heap.size + 1) (w.heap.size + 1 + 1) w.heap.size A3.out (by omega) (by omega) (by omega) (by omega) (by omega) (by omega) (num_Pow.start w nd nd2 a0)).mono ?_; rintro e w3 ⟨rfl, hin⟩; have HIN := Aside0.mk hin; have e1 : w3.cell? ⟨w.heap.size + 1, 0, none⟩ = some (.bool true) := (HIN.out.1).cell 0; have e2 : w3.cell? ⟨w.heap.size + 1 + 1, 0, none⟩ = some (.int .i64 q1) := (HIN.out.2.1).cell 0; clear hin) | (go_at_call 18; refine (num_Div.calls k 10000 q1 r1 r2 _ A4.out).mono ?_; rintro e w4 ⟨rfl, hb4⟩))
                  go_ret2
                  exact ⟨rfl, HIN.out.2.2.2.trans (hb4.mono (Nat.le_of_lt (HIN.out.2.2.1).lt))⟩
              · have c6b : decide (t1 < 0) = false := decide_eq_false c6
                have c7b : decide (t1 < -t1) = false := decide_eq_false (by omega)
                have c8b : (t1 < -t1) = False := eq_false (by omega)
                have c9b : (-t1 ≤ t1) = True := eq_true (by omega)
                have e3 : (max t1 (-t1)).toNat = (t1).toNat := by omega
                rw [e3] at A3
                obtain ⟨n, hn⟩ : ∃ n : Nat, n = (t1).toNat := ⟨_, rfl⟩
                rw [← hn] at A3
                have Hn := Aside0.mk hn
                have n64 : n ≤ 64 := by omega
                have nn : (n : Int) = t1 := by omega
                have Nn := Aside0.mk nn
                clear hn e3 nn
                cases q2 with
                | false =>
                  have h := HH.out
                  rw [if_neg (by simp)] at h
                  simp only [Option.some.injEq, Prod.mk.injEq] at h
                  obtain ⟨rfl, rfl⟩ := h
                  clear c6
                  go_enter Tryd.func21, Tryd.ntmps21
                  go_wp2_with (first | (go_at_call 26; refine (num_Whole.calls a1 t1 true _ A1.out).mono ?_; rintro e w1 ⟨rfl, nd, rfl⟩) | (go_at_call 14; refine (num_Good.calls a0 true _ A2.out).mono ?_; rintro e w1 ⟨rfl, nd2, rfl⟩) | (go_at_call 58; refine (num_Pow.times k n t1 (by have := Nn.out; omega) true 10000 a0 (q1, false) w _ w.heap.size (w.heap.size + 1) (w.heap.size + 1 + 1) w.heap.size A3.out (by omega) (by omega) (by omega) (by omega) (by omega) (by omega) (num_Pow.start w nd nd2 a0)).mono ?_; rintro e w3 ⟨rfl, hin⟩; have HIN := Aside0.mk hin; have e1 : w3.cell? ⟨w.heap.size + 1, 0, none⟩ = some (.bool false) := (HIN.out.1).cell 0; have e2 : w3.cell? ⟨w.heap.size + 1 + 1, 0, none⟩ = some (.int .i64 q1) := (HIN.out.2.1).cell 0; clear hin))
                  go_ret2
                  exact ⟨rfl, HIN.out.2.2.2⟩
                | true =>
                  have h := HH.out
                  rw [if_pos rfl, if_neg c6] at h
                  simp only [Option.some.injEq, Prod.mk.injEq] at h
                  obtain ⟨rfl, rfl⟩ := h
                  clear c6
                  go_enter Tryd.func21, Tryd.ntmps21
                  go_wp2_with (first | (go_at_call 26; refine (num_Whole.calls a1 t1 true _ A1.out).mono ?_; rintro e w1 ⟨rfl, nd, rfl⟩) | (go_at_call 14; refine (num_Good.calls a0 true _ A2.out).mono ?_; rintro e w1 ⟨rfl, nd2, rfl⟩) | (go_at_call 58; refine (num_Pow.times k n t1 (by have := Nn.out; omega) true 10000 a0 (q1, true) w _ w.heap.size (w.heap.size + 1) (w.heap.size + 1 + 1) w.heap.size A3.out (by omega) (by omega) (by omega) (by omega) (by omega) (by omega) (num_Pow.start w nd nd2 a0)).mono ?_; rintro e w3 ⟨rfl, hin⟩; have HIN := Aside0.mk hin; have e1 : w3.cell? ⟨w.heap.size + 1, 0, none⟩ = some (.bool true) := (HIN.out.1).cell 0; have e2 : w3.cell? ⟨w.heap.size + 1 + 1, 0, none⟩ = some (.int .i64 q1) := (HIN.out.2.1).cell 0; clear hin))
                  go_ret2
                  exact ⟨rfl, HIN.out.2.2.2⟩
            · have c4b : (a0 == 0) = false := beq_eq_false_iff_ne.mpr c4
              clear c3 c4 c1 c2
              by_cases c6 : t1 < 0
              · have c6b : decide (t1 < 0) = true := decide_eq_true c6
                have c7b : decide (t1 < -t1) = true := decide_eq_true (by omega)
                have c8b : (t1 < -t1) = True := eq_true (by omega)
                have c9b : (-t1 ≤ t1) = False := eq_false (by omega)
                have e3 : (max t1 (-t1)).toNat = (-t1).toNat := by omega
                rw [e3] at A3
                obtain ⟨n, hn⟩ : ∃ n : Nat, n = (-t1).toNat := ⟨_, rfl⟩
                rw [← hn] at A3
                have Hn := Aside0.mk hn
                have n64 : n ≤ 64 := by omega
                have nn : (n : Int) = -t1 := by omega
                have Nn := Aside0.mk nn
                clear hn e3 nn
                cases q2 with
                | false =>
                  have h := HH.out
                  rw [if_neg (by simp)] at h
                  simp only [Option.some.injEq, Prod.mk.injEq] at h
                  obtain ⟨rfl, rfl⟩ := h
                  clear c6
                  go_enter Tryd.func21, Tryd.ntmps21
                  go_wp2_with (first | (go_at_call 26; refine (num_Whole.calls a1 t1 true _ A1.out).mono ?_; rintro e w1 ⟨rfl, nd, rfl⟩) | (go_at_call 14; refine (num_Good.calls a0 true _ A2.out).mono ?_; rintro e w1 ⟨rfl, nd2, rfl⟩) | (go_at_call 58; refine (num_Pow.times k n (-t1) (by have := Nn.out; omega) true 10000 a0 (q1, false) w _ w.heap.size (w.heap.size + 1) (w.heap.size + 1 + 1) w.heap.size A3.out (by omega) (by omega) (by omega) (by omega) (by omega) (by omega) (num_Pow.start w nd nd2 a0)).mono ?_; rintro e w3 ⟨rfl, hin⟩; have HIN := Aside0.mk hin; have e1 : w3.cell? ⟨w.heap.size + 1, 0, none⟩ = some (.bool false) := (HIN.out.1).cell 0; have e2 : w3.cell? ⟨w.heap.size + 1 + 1, 0, none⟩ = some (.int .i64 q1) := (HIN.out.2.1).cell 0; clear hin))
                  go_ret2
                  exact ⟨rfl, HIN.out.2.2.2⟩
                | true =>
                  have h := HH.out
                  rw [if_pos rfl, if_pos c6] at h
                  have A4 := Aside0.mk h
                  clear h c6
                  go_enter Tryd.func21, Tryd.ntmps21
                  go_wp2_with (first | (go_at_call 26; refine (num_Whole.calls a1 t1 true _ A1.out).mono ?_; rintro e w1 ⟨rfl, nd, rfl⟩) | (go_at_call 14; refine (num_Good.calls a0 true _ A2.out).mono ?_; rintro e w1 ⟨rfl, nd2, rfl⟩) | (go_at_call 58; refine (num_Pow.times k n (-t1) (by have := Nn.out; omega) true 10000 a0 (q1, true) w _ w.heap.size (w.heap.size + 1) (w.heap.size + 1 + 1) w.heap.size A3.out (by omega) (by omega) (by omega) (by omega) (by omega) (by omega) (num_Pow.start w nd nd2 a0)).mono ?_; rintro e w3 ⟨rfl, hin⟩; have HIN := Aside0.mk hin; have e1 : w3.cell? ⟨w.heap.size + 1, 0, none⟩ = some (.bool true) := (HIN.out.1).cell 0; have e2 : w3.cell? ⟨w.heap.size + 1 + 1, 0, none⟩ = some (.int .i64 q1) := (HIN.out.2.1).cell 0; clear hin) | (go_at_call 18; refine (num_Div.calls k 10000 q1 r1 r2 _ A4.out).mono ?_; rintro e w4 ⟨rfl, hb4⟩))
                  go_ret2
                  exact ⟨rfl, HIN.out.2.2.2.trans (hb4.mono (Nat.le_of_lt (HIN.out.2.2.1).lt))⟩
              · have c6b : decide (t1 < 0) = false := decide_eq_false c6
                have c7b : decide (t1 < -t1) = false := decide_eq_false (by omega)
                have c8b : (t1 < -t1) = False := eq_false (by omega)
                have c9b : (-t1 ≤ t1) = True := eq_true (by omega)
                have e3 : (max t1 (-t1)).toNat = (t1).toNat := by omega
                rw [e3] at A3
                obtain ⟨n, hn⟩ : ∃ n : Nat, n = (t1).toNat := ⟨_, rfl⟩
                rw [← hn] at A3
                have Hn := Aside0.mk hn
                have n64 : n ≤ 64 := by omega
                have nn : (n : Int) = t1 := by omega
                have Nn := Aside0.mk nn
                clear hn e3 nn
                cases q2 with
                | false =>
                  have h := HH.out
                  rw [if_neg (by simp)] at h
                  simp only [Option.some.injEq, Prod.mk.injEq] at h
                  obtain ⟨rfl, rfl⟩ := h
                  clear c6
                  go_enter Tryd.func21, Tryd.ntmps21
                  go_wp2_with (first | (go_at_call 26; refine (num_Whole.calls a1 t1 true _ A1.out).mono ?_; rintro e w1 ⟨rfl, nd, rfl⟩) | (go_at_call 14; refine (num_Good.calls a0 true _ A2.out).mono ?_; rintro e w1 ⟨rfl, nd2, rfl⟩) | (go_at_call 58; refine (num_Pow.times k n t1 (by have := Nn.out; omega) true 10000 a0 (q1, false) w _ w.heap.size (w.heap.size + 1) (w.heap.size + 1 + 1) w.heap.size A3.out (by omega) (by omega) (by omega) (by omega) (by omega) (by omega) (num_Pow.start w nd nd2 a0)).mono ?_; rintro e w3 ⟨rfl, hin⟩; have HIN := Aside0.mk hin; have e1 : w3.cell? ⟨w.heap.size + 1, 0, none⟩ = some (.bool false) := (HIN.out.1).cell 0; have e2 : w3.cell? ⟨w.heap.size + 1 + 1, 0, none⟩ = some (.int .i64 q1) := (HIN.out.2.1).cell 0; clear hin))
                  go_ret2
                  exact ⟨rfl, HIN.out.2.2.2⟩
                | true =>
                  have h := HH.out
                  rw [if_pos rfl, if_neg c6] at h
                  simp only [Option.some.injEq, Prod.mk.injEq] at h
                  obtain ⟨rfl, rfl⟩ := h
                  clear c6
                  go_enter Tryd.func21, Tryd.ntmps21
                  go_wp2_with (first | (go_at_call 26; refine (num_Whole.calls a1 t1 true _ A1.out).mono ?_; rintro e w1 ⟨rfl, nd, rfl⟩) | (go_at_call 14; refine (num_Good.calls a0 true _ A2.out).mono ?_; rintro e w1 ⟨rfl, nd2, rfl⟩) | (go_at_call 58; refine (num_Pow.times k n t1 (by have := Nn.out; omega) true 10000 a0 (q1, true) w _ w.heap.size (w.heap.size + 1) (w.heap.size + 1 + 1) w.heap.size A3.out (by omega) (by omega) (by omega) (by omega) (by omega) (by omega) (num_Pow.start w nd nd2 a0)).mono ?_; rintro e w3 ⟨rfl, hin⟩; have HIN := Aside0.mk hin; have e1 : w3.cell? ⟨w.heap.size + 1, 0, none⟩ = some (.bool true) := (HIN.out.1).cell 0; have e2 : w3.cell? ⟨w.heap.size + 1 + 1, 0, none⟩ = some (.int .i64 q1) := (HIN.out.2.1).cell 0; clear hin))
                  go_ret2
                  exact ⟨rfl, HIN.out.2.2.2⟩
/-! ### octavolaw05_same: function 23 -/
def octavolaw05_same.f (a0 : Int) (a1 : Bool) (a2 : Int) (a3 : Bool) : Option (Bool) := if a0 = a2 then (some (a1 == a3)) else (some false)
set_option maxHeartbeats 8000000 in
set_option maxRecDepth 100000 in
theorem octavolaw05_same.calls (a0 : Int) (a1 : Bool) (a2 : Int) (a3 : Bool) (r : Bool) (w : World) (h : octavolaw05_same.f a0 a1 a2 a3 = some r) :
    Calls Tryd.prog 23 #[.int .i64 a0, .bool a1, .int .i64 a2, .bool a3] w fun e w' => e = .returned (.bool r) ∧ Drawn0 w w' := by
  have H : (if a0 = a2 then (some (a1 == a3)) else (some false)) = some r := h
  clear h
  by_cases c5 : a0 = a2
  · rw [if_pos c5] at H
    have c5b0 : (a0 == a2) = true := beq_iff_eq.mpr c5
    have c5b1 : (a0 != a2) = false := bne_eq_false_iff_eq.mpr c5
    clear c5
    obtain rfl := Option.some.inj H
    go_enter Tryd.func23, Tryd.ntmps23
    go_wp2
    go_ret
    exact ⟨by first | rfl | (simp; done) | (simp [*]; done), by repeat (first | exact Drawn0.refl _ | apply Drawn0.step)⟩
  · rw [if_neg c5] at H
    have c5b0 : (a0 == a2) = false := beq_eq_false_iff_ne.mpr c5
    have c5b1 : (a0 != a2) = true := bne_iff_ne.mpr c5
    obtain rfl := Option.some.inj H
    go_enter Tryd.func23, Tryd.ntmps23
    go_wp2
    go_ret
    exact ⟨by first | rfl | (simp; done) | (simp [*]; done), by repeat (first | exact Drawn0.refl _ | apply Drawn0.step)⟩

/-! ### num_Add: function 30 -/
def num_Add.f (k : Nat) (a0 : Int) (a1 : Int) : Option (Int × Bool) := (num_both.f k (([a0, a1] : List Int))).bind fun t168 => (if t168 = true then ((num_told.f (wrap64 (a0 + a1))).bind fun bt169 => (some (bt169.1, bt169.2))) else (some (0, false)))
theorem num_Add.mono : ∀ a0 a1 k, LeO (num_Add.f k a0 a1) (num_Add.f (k + 1) a0 a1) := by
  intro a0 a1 k
  unfold num_Add.f
  repeat' first
      | (with_reducible exact num_both.mono _ _)
      | (with_reducible exact LeO.refl _)
      | (with_reducible exact LeO.none _)
      | (with_reducible refine LeO.ite ?_ ?_)
      | (with_reducible refine LeO.bind ?_ (fun _ => ?_))
      | exact num_both.mono _ _
      | exact LeO.none _
      | refine LeO.ite ?_ ?_
      | refine LeO.bind ?_ (fun _ => ?_)
set_option maxHeartbeats 8000000 in
set_option maxRecDepth 100000 in
theorem num_Add.calls (k : Nat) (a0 : Int) (a1 : Int) (r1 : Int) (r2 : Bool) (w : World) (h : num_Add.f k a0 a1 = some (r1, r2)) :
    Calls Tryd.prog 30 #[.int .i64 a0, .int .i64 a1] w fun e w' => e = .returned (.tuple #[.int .i64 r1, .bool r2]) ∧ Below w.heap.size w w' := by
  have HB := Aside0.mk (Below.refl w.heap.size w)
  have H : ((num_both.f k (([a0, a1] : List Int))).bind fun t168 => (if t168 = true then ((num_told.f (wrap64 (a0 + a1))).bind fun bt169 => (some (bt169.1, bt169.2))) else (some (0, false)))) = some (r1, r2) := h
  clear h
  obtain ⟨y165, hy165⟩ : ∃ y_ : List Int, y_ = (([a0, a1] : List Int)) := ⟨_, rfl⟩
  replace H : ((num_both.f k y165).bind fun t168 => (if t168 = true then ((num_told.f (wrap64 (a0 + a1))).bind fun bt169 => (some (bt169.1, bt169.2))) else (some (0, false)))) = some (r1, r2) := by first | (rw [hy165]; with_reducible exact H) | (have H2_ := (Option.bind_some _ _).symm.trans H; rw [hy165]; with_reducible exact H2_) | (have H2_ := (Option.bind_some _ _).symm.trans H; with_reducible exact H2_) | with_reducible exact H | (rw [hy165]; exact H) | exact H
  have Ny165 := Aside0.mk hy165
  clear hy165
  replace H := Option.bind_eq_some_iff.mp H
  obtain ⟨t168, A30, H⟩ := H
  replace H : (if t168 = true then ((num_told.f (wrap64 (a0 + a1))).bind fun bt169 => (some (bt169.1, bt169.2))) else (some (0, false))) = some (r1, r2) := H
  have A3 := Aside0.mk A30
  clear A30
  by_cases c4 : t168 = true
  · subst c4
    have H1 : ((num_told.f (wrap64 (a0 + a1))).bind fun bt169 => (some (bt169.1, bt169.2))) = some (r1, r2) := by rw [if_pos rfl] at H; exact H
    clear H
    have H := H1
    clear H1
    replace H := Option.bind_eq_some_iff.mp H
    obtain ⟨⟨t169, t170⟩, A50, H⟩ := H
    replace H : (some (t169, t170)) = some (r1, r2) := H
    have A5 := Aside0.mk A50
    clear A50
    simp only [Option.some.injEq, Prod.mk.injEq] at H
    obtain ⟨rfl, rfl⟩ := H
    go_enter Tryd.func30, Tryd.ntmps30
    go_wp2_with (first | ((with_reducible refine gate_dst (N := 8) rfl ?_); refine Kd.R_lit (Kd.int .i64) _ 3 ?hg (N := 8) ?hd (xs := ([a0, a1] : List Int)) (inner := [.int .i64 a0, .int .i64 a1]) (ok := fun _ => True) (okp := fun _ => True) ?hr ?hp (fun _ hk => hk) trivial (Below.refl _ _) (Nat.le_refl _) (by simp) ?_; (case hd => rfl); (case hg => rfl); (case hr => first | (go_simp; done) | (go_simp; rfl)); (case hp => exact (Reps.one (show Kd.M (Kd.int .i64) _ _ _ a0 [.int .i64 a0] from rfl) (Reps.one (show Kd.M (Kd.int .i64) _ _ _ a1 [.int .i64 a1] from rfl) (Reps.none _ _)))); intro v166 w6 ho7 hb hg_ hnew_; clear hg_ hnew_; (first | rw [← Ny165.out] at ho7 | (simp only [Int.reduceToNat] at ho7; rw [← Ny165.out] at ho7)); have n0_ := Aside0.mk (Kd.R_lower ho7 (below_size (by repeat (first | (with_reducible first | exact HB.out | apply below_alloc | apply pw_below_drewN | apply below_drew1) | exact HB.out)))); have n1_ := Aside0.mk (below_step (by repeat (first | (with_reducible first | exact HB.out | apply below_alloc | apply pw_below_drewN | apply below_drew1) | exact HB.out)) hb); clear HB; have HO167 := n0_; have HB := n1_; clear n0_ n1_; clear hb ho7; obtain ⟨Ao8, co8, eo8⟩ := Kd.R_slice HO167.out; subst eo8) | ((with_reducible refine gate_callee (f := 54) rfl ?_); refine goesL_ (some 9) rfl rfl Tryd.func54 (by kernel_rfl) rfl #[.slice Ao8 y165.length co8] rfl (by (try simp only [List.map_toArray, List.map_cons, List.map_nil]); first | done | rfl | (simp only [List.length_drop, List.length_take]; rfl)) ?_; (with_reducible refine (num_both.calls k _ _ y165 true _ ?side1 ?side2 A3.out).mono ?_); (case side1 => repeat (first | exact (Kd.R_reads' HO167.out).2.2 | (with_reducible refine Kd.C_alloc ?_ _) | (with_reducible refine Kd.C_drewN ?_ _) | (with_reducible refine Kd.C_drew ?_))); (case side2 => exact (Kd.R_reads' HO167.out).2.1); rintro e w' ⟨rfl, ⟨nd, rfl⟩⟩; refine ⟨_, rfl, ?_⟩) | ((with_reducible refine gate_callee (f := 47) rfl ?_); refine goesL_ (some 14) rfl rfl Tryd.func47 (by kernel_rfl) rfl #[.int .i64 (wrap64 (a0 + a1))] rfl (by (try simp only [List.map_toArray, List.map_cons, List.map_nil]); first | done | rfl | (simp only [List.length_drop, List.length_take]; rfl)) ?_; (with_reducible refine (num_told.calls (wrap64 (a0 + a1)) t169 t170 _ A5.out).mono ?_); rintro e w' ⟨rfl, ⟨nd, rfl⟩⟩; refine ⟨_, rfl, ?_⟩))
    go_ret2
    exact ⟨by first | rfl | (simp [errW_none, errW_some] <;> rfl) | (simp [*, errW_none, errW_some] <;> rfl), by repeat (first | (with_reducible first | exact HB.out | apply below_alloc | apply pw_below_drewN | apply below_drew1) | exact HB.out)⟩
  · replace c4 := Bool.eq_false_iff.mpr c4
    subst c4
    have H1 : (some (0, false)) = some (r1, r2) := by rw [if_neg (show ¬ (false = true) by decide)] at H; exact H
    clear H
    have H := H1
    clear H1
    simp only [Option.some.injEq, Prod.mk.injEq] at H
    obtain ⟨rfl, rfl⟩ := H
    go_enter Tryd.func30, Tryd.ntmps30
    go_wp2_with (first | ((with_reducible refine gate_dst (N := 8) rfl ?_); refine Kd.R_lit (Kd.int .i64) _ 3 ?hg (N := 8) ?hd (xs := ([a0, a1] : List Int)) (inner := [.int .i64 a0, .int .i64 a1]) (ok := fun _ => True) (okp := fun _ => True) ?hr ?hp (fun _ hk => hk) trivial (Below.refl _ _) (Nat.le_refl _) (by simp) ?_; (case hd => rfl); (case hg => rfl); (case hr => first | (go_simp; done) | (go_simp; rfl)); (case hp => exact (Reps.one (show Kd.M (Kd.int .i64) _ _ _ a0 [.int .i64 a0] from rfl) (Reps.one (show Kd.M (Kd.int .i64) _ _ _ a1 [.int .i64 a1] from rfl) (Reps.none _ _)))); intro v166 w9 ho10 hb hg_ hnew_; clear hg_ hnew_; (first | rw [← Ny165.out] at ho10 | (simp only [Int.reduceToNat] at ho10; rw [← Ny165.out] at ho10)); have n0_ := Aside0.mk (Kd.R_lower ho10 (below_size (by repeat (first | (with_reducible first | exact HB.out | apply below_alloc | apply pw_below_drewN | apply below_drew1) | exact HB.out)))); have n1_ := Aside0.mk (below_step (by repeat (first | (with_reducible first | exact HB.out | apply below_alloc | apply pw_below_drewN | apply below_drew1) | exact HB.out)) hb); clear HB; have HO167 := n0_; have HB := n1_; clear n0_ n1_; clear hb ho10; obtain ⟨Ao11, co11, eo11⟩ := Kd.R_slice HO167.out; subst eo11) | ((with_reducible refine gate_callee (f := 54) rfl ?_); refine goesL_ (some 9) rfl rfl Tryd.func54 (by kernel_rfl) rfl #[.slice Ao11 y165.length co11] rfl (by (try simp only [List.map_toArray, List.map_cons, List.map_nil]); first | done | rfl | (simp only [List.length_drop, List.length_take]; rfl)) ?_; (with_reducible refine (num_both.calls k _ _ y165 false _ ?side1 ?side2 A3.out).mono ?_); (case side1 => repeat (first | exact (Kd.R_reads' HO167.out).2.2 | (with_reducible refine Kd.C_alloc ?_ _) | (with_reducible refine Kd.C_drewN ?_ _) | (with_reducible refine Kd.C_drew ?_))); (case side2 => exact (Kd.R_reads' HO167.out).2.1); rintro e w' ⟨rfl, ⟨nd, rfl⟩⟩; refine ⟨_, rfl, ?_⟩))
    go_ret2
    exact ⟨by first | rfl | (simp [errW_none, errW_some] <;> rfl) | (simp [*, errW_none, errW_some] <;> rfl), by repeat (first | (with_reducible first | exact HB.out | apply below_alloc | apply pw_below_drewN | apply below_drew1) | exact HB.out)⟩

/-! ### num_Sub: function 31 -/
def num_Sub.f (k : Nat) (a0 : Int) (a1 : Int) : Option (Int × Bool) := (num_both.f k (([a0, a1] : List Int))).bind fun t174 => (if t174 = true then ((num_told.f (wrap64 (a0 - a1))).bind fun bt175 => (some (bt175.1, bt175.2))) else (some (0, false)))
theorem num_Sub.mono : ∀ a0 a1 k, LeO (num_Sub.f k a0 a1) (num_Sub.f (k + 1) a0 a1) := by
  intro a0 a1 k
  unfold num_Sub.f
  repeat' first
      | (with_reducible exact num_both.mono _ _)
      | (with_reducible exact LeO.refl _)
      | (with_reducible exact LeO.none _)
      | (with_reducible refine LeO.ite ?_ ?_)
      | (with_reducible refine LeO.bind ?_ (fun _ => ?_))
      | exact num_both.mono _ _
      | exact LeO.none _
      | refine LeO.ite ?_ ?_
      | refine LeO.bind ?_ (fun _ => ?_)
set_option maxHeartbeats 8000000 in
set_option maxRecDepth 100000 in
theorem num_Sub.calls (k : Nat) (a0 : Int) (a1 : Int) (r1 : Int) (r2 : Bool) (w : World) (h : num_Sub.f k a0 a1 = some (r1, r2)) :
    Calls Tryd.prog 31 #[.int .i64 a0, .int .i64 a1] w fun e w' => e = .returned (.tuple #[.int .i64 r1, .bool r2]) ∧ Below w.heap.size w w' := by
  have HB := Aside0.mk (Below.refl w.heap.size w)
  have H : ((num_both.f k (([a0, a1] : List Int))).bind fun t174 => (if t174 = true then ((num_told.f (wrap64 (a0 - a1))).bind fun bt175 => (some (bt175.1, bt175.2))) else (some (0, false)))) = some (r1, r2) := h
  clear h
  obtain ⟨y171, hy171⟩ : ∃ y_ : List Int, y_ = (([a0, a1] : List Int)) := ⟨_, rfl⟩
  replace H : ((num_both.f k y171).bind fun t174 => (if t174 = true then ((num_told.f (wrap64 (a0 - a1))).bind fun bt175 => (some (bt175.1, bt175.2))) else (some (0, false)))) = some (r1, r2) := by first | (rw [hy171]; with_reducible exact H) | (have H2_ := (Option.bind_some _ _).symm.trans H; rw [hy171]; with_reducible exact H2_) | (have H2_ := (Option.bind_some _ _).symm.trans H; with_reducible exact H2_) | with_reducible exact H | (rw [hy171]; exact H) | exact H
  have Ny171 := Aside0.mk hy171
  clear hy171
  replace H := Option.bind_eq_some_iff.mp H
  obtain ⟨t174, A30, H⟩ := H
  replace H : (if t174 = true then ((num_told.f (wrap64 (a0 - a1))).bind fun bt175 => (some (bt175.1, bt175.2))) else (some (0, false))) = some (r1, r2) := H
  have A3 := Aside0.mk A30
  clear A30
  by_cases c4 : t174 = true
  · subst c4
    have H1 : ((num_told.f (wrap64 (a0 - a1))).bind fun bt175 => (some (bt175.1, bt175.2))) = some (r1, r2) := by rw [if_pos rfl] at H; exact H
    clear H
    have H := H1
    clear H1
    replace H := Option.bind_eq_some_iff.mp H
    obtain ⟨⟨t175, t176⟩, A50, H⟩ := H
    replace H : (some (t175, t176)) = some (r1, r2) := H
    have A5 := Aside0.mk A50
    clear A50
    simp only [Option.some.injEq, Prod.mk.injEq] at H
    obtain ⟨rfl, rfl⟩ := H
    go_enter Tryd.func31, Tryd.ntmps31
    go_wp2_with (first | ((with_reducible refine gate_dst (N := 8) rfl ?_); refine Kd.R_lit (Kd.int .i64) _ 3 ?hg (N := 8) ?hd (xs := ([a0, a1] : List Int)) (inner := [.int .i64 a0, .int .i64 a1]) (ok := fun _ => True) (okp := fun _ => True) ?hr ?hp (fun _ hk => hk) trivial (Below.refl _ _) (Nat.le_refl _) (by simp) ?_; (case hd => rfl); (case hg => rfl); (case hr => first | (go_simp; done) | (go_simp; rfl)); (case hp => exact (Reps.one (show Kd.M (Kd.int .i64) _ _ _ a0 [.int .i64 a0] from rfl) (Reps.one (show Kd.M (Kd.int .i64) _ _ _ a1 [.int .i64 a1] from rfl) (Reps.none _ _)))); intro v172 w6 ho7 hb hg_ hnew_; clear hg_ hnew_; (first | rw [← Ny171.out] at ho7 | (simp only [Int.reduceToNat] at ho7; rw [← Ny171.out] at ho7)); have n0_ := Aside0.mk (Kd.R_lower ho7 (below_size (by repeat (first | (with_reducible first | exact HB.out | apply below_alloc | apply pw_below_drewN | apply below_drew1) | exact HB.out)))); have n1_ := Aside0.mk (below_step (by repeat (first | (with_reducible first | exact HB.out | apply below_alloc | apply pw_below_drewN | apply below_drew1) | exact HB.out)) hb); clear HB; have HO173 := n0_; have HB := n1_; clear n0_ n1_; clear hb ho7; obtain ⟨Ao8, co8, eo8⟩ := Kd.R_slice HO173.out; subst eo8) | ((with_reducible refine gate_callee (f := 54) rfl ?_); refine goesL_ (some 9) rfl rfl Tryd.func54 (by kernel_rfl) rfl #[.slice Ao8 y171.length co8] rfl (by (try simp only [List.map_toArray, List.map_cons, List.map_nil]); first | done | rfl | (simp only [List.length_drop, List.length_take]; rfl)) ?_; (with_reducible refine (num_both.calls k _ _ y171 true _ ?side1 ?side2 A3.out).mono ?_); (case side1 => repeat (first | exact (Kd.R_reads' HO173.out).2.2 | (with_reducible refine Kd.C_alloc ?_ _) | (with_reducible refine Kd.C_drewN ?_ _) | (with_reducible refine Kd.C_drew ?_))); (case side2 => exact (Kd.R_reads' HO173.out).2.1); rintro e w' ⟨rfl, ⟨nd, rfl⟩⟩; refine ⟨_, rfl, ?_⟩) | ((with_reducible refine gate_callee (f := 47) rfl ?_); refine goesL_ (some 14) rfl rfl Tryd.func47 (by kernel_rfl) rfl #[.int .i64 (wrap64 (a0 - a1))] rfl (by (try simp only [List.map_toArray, List.map_cons, List.map_nil]); first | done | rfl | (simp only [List.length_drop, List.length_take]; rfl)) ?_; (with_reducible refine (num_told.calls (wrap64 (a0 - a1)) t175 t176 _ A5.out).mono ?_); rintro e w' ⟨rfl, ⟨nd, rfl⟩⟩; refine ⟨_, rfl, ?_⟩))
    go_ret2
    exact ⟨by first | rfl | (simp [errW_none, errW_some] <;> rfl) | (simp [*, errW_none, errW_some] <;> rfl), by repeat (first | (with_reducible first | exact HB.out | apply below_alloc | apply pw_below_drewN | apply below_drew1) | exact HB.out)⟩
  · replace c4 := Bool.eq_false_iff.mpr c4
    subst c4
    have H1 : (some (0, false)) = some (r1, r2) := by rw [if_neg (show ¬ (false = true) by decide)] at H; exact H
    clear H
    have H := H1
    clear H1
    simp only [Option.some.injEq, Prod.mk.injEq] at H
    obtain ⟨rfl, rfl⟩ := H
    go_enter Tryd.func31, Tryd.ntmps31
    go_wp2_with (first | ((with_reducible refine gate_dst (N := 8) rfl ?_); refine Kd.R_lit (Kd.int .i64) _ 3 ?hg (N := 8) ?hd (xs := ([a0, a1] : List Int)) (inner := [.int .i64 a0, .int .i64 a1]) (ok := fun _ => True) (okp := fun _ => True) ?hr ?hp (fun _ hk => hk) trivial (Below.refl _ _) (Nat.le_refl _) (by simp) ?_; (case hd => rfl); (case hg => rfl); (case hr => first | (go_simp; done) | (go_simp; rfl)); (case hp => exact (Reps.one (show Kd.M (Kd.int .i64) _ _ _ a0 [.int .i64 a0] from rfl) (Reps.one (show Kd.M (Kd.int .i64) _ _ _ a1 [.int .i64 a1] from rfl) (Reps.none _ _)))); intro v172 w9 ho10 hb hg_ hnew_; clear hg_ hnew_; (first | rw [← Ny171.out] at ho10 | (simp only [Int.reduceToNat] at ho10; rw [← Ny171.out] at ho10)); have n0_ := Aside0.mk (Kd.R_lower ho10 (below_size (by repeat (first | (with_reducible first | exact HB.out | apply below_alloc | apply pw_below_drewN | apply below_drew1) | exact HB.out)))); have n1_ := Aside0.mk (below_step (by repeat (first | (with_reducible first | exact HB.out | apply below_alloc | apply pw_below_drewN | apply below_drew1) | exact HB.out)) hb); clear HB; have HO173 := n0_; have HB := n1_; clear n0_ n1_; clear hb ho10; obtain ⟨Ao11, co11, eo11⟩ := Kd.R_slice HO173.out; subst eo11) | ((with_reducible refine gate_callee (f := 54) rfl ?_); refine goesL_ (some 9) rfl rfl Tryd.func54 (by kernel_rfl) rfl #[.slice Ao11 y171.length co11] rfl (by (try simp only [List.map_toArray, List.map_cons, List.map_nil]); first | done | rfl | (simp only [List.length_drop, List.length_take]; rfl)) ?_; (with_reducible refine (num_both.calls k _ _ y171 false _ ?side1 ?side2 A3.out).mono ?_); (case side1 => repeat (first | exact (Kd.R_reads' HO173.out).2.2 | (with_reducible refine Kd.C_alloc ?_ _) | (with_reducible refine Kd.C_drewN ?_ _) | (with_reducible refine Kd.C_drew ?_))); (case side2 => exact (Kd.R_reads' HO173.out).2.1); rintro e w' ⟨rfl, ⟨nd, rfl⟩⟩; refine ⟨_, rfl, ?_⟩))
    go_ret2
    exact ⟨by first | rfl | (simp [errW_none, errW_some] <;> rfl) | (simp [*, errW_none, errW_some] <;> rfl), by repeat (first | (with_reducible first | exact HB.out | apply below_alloc | apply pw_below_drewN | apply below_drew1) | exact HB.out)⟩

/-! ### num_floor: function 57 -/
def num_floor.f (a0 : Int) (a1 : Int) : Option (Int) := if a1 = 0 then (none) else (if (Int.tmod a0 a1) = 0 then (some (wrap64 (Int.tdiv a0 a1))) else (if (Go.bits .xor .i64 (Int.tmod a0 a1) a1) < 0 then (some (wrap64 ((wrap64 (Int.tdiv a0 a1)) - 1))) else (some (wrap64 (Int.tdiv a0 a1)))))
set_option maxHeartbeats 8000000 in
set_option maxRecDepth 100000 in
theorem num_floor.calls (a0 : Int) (a1 : Int) (r : Int) (w : World) (h : num_floor.f a0 a1 = some r) :
    Calls Tryd.prog 57 #[.int .i64 a0, .int .i64 a1] w fun e w' => e = .returned (.int .i64 r) ∧ Drawn0 w w' := by
  have H : (if a1 = 0 then (none) else (if (Int.tmod a0 a1) = 0 then (some (wrap64 (Int.tdiv a0 a1))) else (if (Go.bits .xor .i64 (Int.tmod a0 a1) a1) < 0 then (some (wrap64 ((wrap64 (Int.tdiv a0 a1)) - 1))) else (some (wrap64 (Int.tdiv a0 a1)))))) = some r := h
  clear h
  by_cases c3 : a1 = 0
  · rw [if_pos c3] at H
    exact absurd H (by simp)
  · rw [if_neg c3] at H
    have c3b0 : (a1 == 0) = false := beq_eq_false_iff_ne.mpr c3
    have c3b1 : (a1 != 0) = true := bne_iff_ne.mpr c3
    by_cases c4 : (Int.tmod a0 a1) = 0
    · rw [if_pos c4] at H
      have c4b0 : ((Int.tmod a0 a1) == 0) = true := beq_iff_eq.mpr c4
      have c4b1 : ((Int.tmod a0 a1) != 0) = false := bne_eq_false_iff_eq.mpr c4
      clear c4
      obtain rfl := Option.some.inj H
      go_enter Tryd.func57, Tryd.ntmps57
      go_wp2
      repeat (go_quiet (fail); try go_wp2)
      go_ret
      exact ⟨by first | rfl | (simp; done) | (simp [*]; done), by repeat (first | exact Drawn0.refl _ | apply Drawn0.step)⟩
    · rw [if_neg c4] at H
      have c4b0 : ((Int.tmod a0 a1) == 0) = false := beq_eq_false_iff_ne.mpr c4
      have c4b1 : ((Int.tmod a0 a1) != 0) = true := bne_iff_ne.mpr c4
      by_cases c5 : (Go.bits .xor .i64 (Int.tmod a0 a1) a1) < 0
      · rw [if_pos c5] at H
        have c5b0 : decide ((Go.bits .xor .i64 (Int.tmod a0 a1) a1) < 0) = true := decide_eq_true c5
        clear c5
        obtain rfl := Option.some.inj H
        go_enter Tryd.func57, Tryd.ntmps57
        go_wp2
        repeat (go_quiet (fail); try go_wp2)
        go_ret
        exact ⟨by first | rfl | (simp; done) | (simp [*]; done), by repeat (first | exact Drawn0.refl _ | apply Drawn0.step)⟩
      · rw [if_neg c5] at H
        have c5b0 : decide ((Go.bits .xor .i64 (Int.tmod a0 a1) a1) < 0) = false := decide_eq_false c5
        clear c5
        obtain rfl := Option.some.inj H
        go_enter Tryd.func57, Tryd.ntmps57
        go_wp2
        repeat (go_quiet (fail); try go_wp2)
        go_ret
        exact ⟨by first | rfl | (simp; done) | (simp [*]; done), by repeat (first | exact Drawn0.refl _ | apply Drawn0.step)⟩

/-! ### num_Mod: function 32 -/
def num_Mod.f (k : Nat) (a0 : Int) (a1 : Int) : Option (Int × Bool) := (num_both.f k (([a0, a1] : List Int))).bind fun t180 => (if t180 = true then (if a1 = 0 then (some (0, false)) else ((num_floor.f a0 a1).bind fun t181 => (some (wrap64 (a0 - (wrap64 (t181 * a1))), true)))) else (some (0, false)))
theorem num_Mod.mono : ∀ a0 a1 k, LeO (num_Mod.f k a0 a1) (num_Mod.f (k + 1) a0 a1) := by
  intro a0 a1 k
  unfold num_Mod.f
  repeat' first
      | (with_reducible exact num_both.mono _ _)
      | (with_reducible exact LeO.refl _)
      | (with_reducible exact LeO.none _)
      | (with_reducible refine LeO.ite ?_ ?_)
      | (with_reducible refine LeO.bind ?_ (fun _ => ?_))
      | exact num_both.mono _ _
      | exact LeO.none _
      | refine LeO.ite ?_ ?_
      | refine LeO.bind ?_ (fun _ => ?_)
set_option maxHeartbeats 8000000 in
set_option maxRecDepth 100000 in
theorem num_Mod.calls (k : Nat) (a0 : Int) (a1 : Int) (r1 : Int) (r2 : Bool) (w : World) (h : num_Mod.f k a0 a1 = some (r1, r2)) :
    Calls Tryd.prog 32 #[.int .i64 a0, .int .i64 a1] w fun e w' => e = .returned (.tuple #[.int .i64 r1, .bool r2]) ∧ Below w.heap.size w w' := by
  have HB := Aside0.mk (Below.refl w.heap.size w)
  have H : ((num_both.f k (([a0, a1] : List Int))).bind fun t180 => (if t180 = true then (if a1 = 0 then (some (0, false)) else ((num_floor.f a0 a1).bind fun t181 => (some (wrap64 (a0 - (wrap64 (t181 * a1))), true)))) else (some (0, false)))) = some (r1, r2) := h
  clear h
  obtain ⟨y177, hy177⟩ : ∃ y_ : List Int, y_ = (([a0, a1] : List Int)) := ⟨_, rfl⟩
  replace H : ((num_both.f k y177).bind fun t180 => (if t180 = true then (if a1 = 0 then (some (0, false)) else ((num_floor.f a0 a1).bind fun t181 => (some (wrap64 (a0 - (wrap64 (t181 * a1))), true)))) else (some (0, false)))) = some (r1, r2) := by first | (rw [hy177]; with_reducible exact H) | (have H2_ := (Option.bind_some _ _).symm.trans H; rw [hy177]; with_reducible exact H2_) | (have H2_ := (Option.bind_some _ _).symm.trans H; with_reducible exact H2_) | with_reducible exact H | (rw [hy177]; exact H) | exact H
  have Ny177 := Aside0.mk hy177
  clear hy177
  replace H := Option.bind_eq_some_iff.mp H
  obtain ⟨t180, A30, H⟩ := H
  replace H : (if t180 = true then (if a1 = 0 then (some (0, false)) else ((num_floor.f a0 a1).bind fun t181 => (some (wrap64 (a0 - (wrap64 (t181 * a1))), true)))) else (some (0, false))) = some (r1, r2) := H
  have A3 := Aside0.mk A30
  clear A30
  by_cases c4 : t180 = true
  · subst c4
    have H1 : (if a1 = 0 then (some (0, false)) else ((num_floor.f a0 a1).bind fun t181 => (some (wrap64 (a0 - (wrap64 (t181 * a1))), true)))) = some (r1, r2) := by rw [if_pos rfl] at H; exact H
    clear H
    have H := H1
    clear H1
    by_cases c5 : a1 = 0
    · rw [if_pos c5] at H
      have c5b0 : (a1 == 0) = true := beq_iff_eq.mpr c5
      have c5b1 : (a1 != 0) = false := bne_eq_false_iff_eq.mpr c5
      clear c5
      simp only [Option.some.injEq, Prod.mk.injEq] at H
      obtain ⟨rfl, rfl⟩ := H
      go_enter Tryd.func32, Tryd.ntmps32
      go_wp2_with (first | ((with_reducible refine gate_dst (N := 8) rfl ?_); refine Kd.R_lit (Kd.int .i64) _ 3 ?hg (N := 8) ?hd (xs := ([a0, a1] : List Int)) (inner := [.int .i64 a0, .int .i64 a1]) (ok := fun _ => True) (okp := fun _ => True) ?hr ?hp (fun _ hk => hk) trivial (Below.refl _ _) (Nat.le_refl _) (by simp) ?_; (case hd => rfl); (case hg => rfl); (case hr => first | (go_simp; done) | (go_simp; rfl)); (case hp => exact (Reps.one (show Kd.M (Kd.int .i64) _ _ _ a0 [.int .i64 a0] from rfl) (Reps.one (show Kd.M (Kd.int .i64) _ _ _ a1 [.int .i64 a1] from rfl) (Reps.none _ _)))); intro v178 w6 ho7 hb hg_ hnew_; clear hg_ hnew_; (first | rw [← Ny177.out] at ho7 | (simp only [Int.reduceToNat] at ho7; rw [← Ny177.out] at ho7)); have n0_ := Aside0.mk (Kd.R_lower ho7 (below_size (by repeat (first | (with_reducible first | exact HB.out | apply below_alloc | apply pw_below_drewN | apply below_drew1) | exact HB.out)))); have n1_ := Aside0.mk (below_step (by repeat (first | (with_reducible first | exact HB.out | apply below_alloc | apply pw_below_drewN | apply below_drew1) | exact HB.out)) hb); clear HB; have HO179 := n0_; have HB := n1_; clear n0_ n1_; clear hb ho7; obtain ⟨Ao8, co8, eo8⟩ := Kd.R_slice HO179.out; subst eo8) | ((with_reducible refine gate_callee (f := 54) rfl ?_); refine goesL_ (some 9) rfl rfl Tryd.func54 (by kernel_rfl) rfl #[.slice Ao8 y177.length co8] rfl (by (try simp only [List.map_toArray, List.map_cons, List.map_nil]); first | done | rfl | (simp only [List.length_drop, List.length_take]; rfl)) ?_; (with_reducible refine (num_both.calls k _ _ y177 true _ ?side1 ?side2 A3.out).mono ?_); (case side1 => repeat (first | exact (Kd.R_reads' HO179.out).2.2 | (with_reducible refine Kd.C_alloc ?_ _) | (with_reducible refine Kd.C_drewN ?_ _) | (with_reducible refine Kd.C_drew ?_))); (case side2 => exact (Kd.R_reads' HO179.out).2.1); rintro e w' ⟨rfl, ⟨nd, rfl⟩⟩; refine ⟨_, rfl, ?_⟩))
      go_ret2
      exact ⟨by first | rfl | (simp [errW_none, errW_some] <;> rfl) | (simp [*, errW_none, errW_some] <;> rfl), by repeat (first | (with_reducible first | exact HB.out | apply below_alloc | apply pw_below_drewN | apply below_drew1) | exact HB.out)⟩
    · rw [if_neg c5] at H
      have c5b0 : (a1 == 0) = false := beq_eq_false_iff_ne.mpr c5
      have c5b1 : (a1 != 0) = true := bne_iff_ne.mpr c5
      replace H := Option.bind_eq_some_iff.mp H
      obtain ⟨t181, A90, H⟩ := H
      replace H : (some (wrap64 (a0 - (wrap64 (t181 * a1))), true)) = some (r1, r2) := H
      have A9 := Aside0.mk A90
      clear A90
      simp only [Option.some.injEq, Prod.mk.injEq] at H
      obtain ⟨rfl, rfl⟩ := H
      go_enter Tryd.func32, Tryd.ntmps32
      go_wp2_with (first | ((with_reducible refine gate_dst (N := 8) rfl ?_); refine Kd.R_lit (Kd.int .i64) _ 3 ?hg (N := 8) ?hd (xs := ([a0, a1] : List Int)) (inner := [.int .i64 a0, .int .i64 a1]) (ok := fun _ => True) (okp := fun _ => True) ?hr ?hp (fun _ hk => hk) trivial (Below.refl _ _) (Nat.le_refl _) (by simp) ?_; (case hd => rfl); (case hg => rfl); (case hr => first | (go_simp; done) | (go_simp; rfl)); (case hp => exact (Reps.one (show Kd.M (Kd.int .i64) _ _ _ a0 [.int .i64 a0] from rfl) (Reps.one (show Kd.M (Kd.int .i64) _ _ _ a1 [.int .i64 a1] from rfl) (Reps.none _ _)))); intro v178 w10 ho11 hb hg_ hnew_; clear hg_ hnew_; (first | rw [← Ny177.out] at ho11 | (simp only [Int.reduceToNat] at ho11; rw [← Ny177.out] at ho11)); have n0_ := Aside0.mk (Kd.R_lower ho11 (below_size (by repeat (first | (with_reducible first | exact HB.out | apply below_alloc | apply pw_below_drewN | apply below_drew1) | exact HB.out)))); have n1_ := Aside0.mk (below_step (by repeat (first | (with_reducible first | exact HB.out | apply below_alloc | apply pw_below_drewN | apply below_drew1) | exact HB.out)) hb); clear HB; have HO179 := n0_; have HB := n1_; clear n0_ n1_; clear hb ho11; obtain ⟨Ao12, co12, eo12⟩ := Kd.R_slice HO179.out; subst eo12) | ((with_reducible refine gate_callee (f := 54) rfl ?_); refine goesL_ (some 9) rfl rfl Tryd.func54 (by kernel_rfl) rfl #[.slice Ao12 y177.length co12] rfl (by (try simp only [List.map_toArray, List.map_cons, List.map_nil]); first | done | rfl | (simp only [List.length_drop, List.length_take]; rfl)) ?_; (with_reducible refine (num_both.calls k _ _ y177 true _ ?side1 ?side2 A3.out).mono ?_); (case side1 => repeat (first | exact (Kd.R_reads' HO179.out).2.2 | (with_reducible refine Kd.C_alloc ?_ _) | (with_reducible refine Kd.C_drewN ?_ _) | (with_reducible refine Kd.C_drew ?_))); (case side2 => exact (Kd.R_reads' HO179.out).2.1); rintro e w' ⟨rfl, ⟨nd, rfl⟩⟩; refine ⟨_, rfl, ?_⟩) | ((with_reducible refine gate_callee (f := 57) rfl ?_); refine goesL_ (some 18) rfl rfl Tryd.func57 (by kernel_rfl) rfl #[.int .i64 a0, .int .i64 a1] rfl (by (try simp only [List.map_toArray, List.map_cons, List.map_nil]); first | done | rfl | (simp only [List.length_drop, List.length_take]; rfl)) ?_; (with_reducible refine (num_floor.calls a0 a1 t181 _ A9.out).mono ?_); rintro e w' ⟨rfl, ⟨nd, rfl⟩⟩; refine ⟨_, rfl, ?_⟩))
      go_ret2
      exact ⟨by first | rfl | (simp [errW_none, errW_some] <;> rfl) | (simp [*, errW_none, errW_some] <;> rfl), by repeat (first | (with_reducible first | exact HB.out | apply below_alloc | apply pw_below_drewN | apply below_drew1) | exact HB.out)⟩
  · replace c4 := Bool.eq_false_iff.mpr c4
    subst c4
    have H1 : (some (0, false)) = some (r1, r2) := by rw [if_neg (show ¬ (false = true) by decide)] at H; exact H
    clear H
    have H := H1
    clear H1
    simp only [Option.some.injEq, Prod.mk.injEq] at H
    obtain ⟨rfl, rfl⟩ := H
    go_enter Tryd.func32, Tryd.ntmps32
    go_wp2_with (first | ((with_reducible refine gate_dst (N := 8) rfl ?_); refine Kd.R_lit (Kd.int .i64) _ 3 ?hg (N := 8) ?hd (xs := ([a0, a1] : List Int)) (inner := [.int .i64 a0, .int .i64 a1]) (ok := fun _ => True) (okp := fun _ => True) ?hr ?hp (fun _ hk => hk) trivial (Below.refl _ _) (Nat.le_refl _) (by simp) ?_; (case hd => rfl); (case hg => rfl); (case hr => first | (go_simp; done) | (go_simp; rfl)); (case hp => exact (Reps.one (show Kd.M (Kd.int .i64) _ _ _ a0 [.int .i64 a0] from rfl) (Reps.one (show Kd.M (Kd.int .i64) _ _ _ a1 [.int .i64 a1] from rfl) (Reps.none _ _)))); intro v178 w13 ho14 hb hg_ hnew_; clear hg_ hnew_; (first | rw [← Ny177.out] at ho14 | (simp only [Int.reduceToNat] at ho14; rw [← Ny177.out] at ho14)); have n0_ := Aside0.mk (Kd.R_lower ho14 (below_size (by repeat (first | (with_reducible first | exact HB.out | apply below_alloc | apply pw_below_drewN | apply below_drew1) | exact HB.out)))); have n1_ := Aside0.mk (below_step (by repeat (first | (with_reducible first | exact HB.out | apply below_alloc | apply pw_below_drewN | apply below_drew1) | exact HB.out)) hb); clear HB; have HO179 := n0_; have HB := n1_; clear n0_ n1_; clear hb ho14; obtain ⟨Ao15, co15, eo15⟩ := Kd.R_slice HO179.out; subst eo15) | ((with_reducible refine gate_callee (f := 54) rfl ?_); refine goesL_ (some 9) rfl rfl Tryd.func54 (by kernel_rfl) rfl #[.slice Ao15 y177.length co15] rfl (by (try simp only [List.map_toArray, List.map_cons, List.map_nil]); first | done | rfl | (simp only [List.length_drop, List.length_take]; rfl)) ?_; (with_reducible refine (num_both.calls k _ _ y177 false _ ?side1 ?side2 A3.out).mono ?_); (case side1 => repeat (first | exact (Kd.R_reads' HO179.out).2.2 | (with_reducible refine Kd.C_alloc ?_ _) | (with_reducible refine Kd.C_drewN ?_ _) | (with_reducible refine Kd.C_drew ?_))); (case side2 => exact (Kd.R_reads' HO179.out).2.1); rintro e w' ⟨rfl, ⟨nd, rfl⟩⟩; refine ⟨_, rfl, ?_⟩))
    go_ret2
    exact ⟨by first | rfl | (simp [errW_none, errW_some] <;> rfl) | (simp [*, errW_none, errW_some] <;> rfl), by repeat (first | (with_reducible first | exact HB.out | apply below_alloc | apply pw_below_drewN | apply below_drew1) | exact HB.out)⟩

/-! ### octavoref05_Good: function 15 -/
def octavoref05_Good.f (a0 : Int) : Option (Bool) := if a0 ≥ (-100000000000) then (some (decide (a0 ≤ 100000000000))) else (some false)
set_option maxHeartbeats 8000000 in
set_option maxRecDepth 100000 in
theorem octavoref05_Good.calls (a0 : Int) (r : Bool) (w : World) (h : octavoref05_Good.f a0 = some r) :
    Calls Tryd.prog 15 #[.int .i64 a0] w fun e w' => e = .returned (.bool r) ∧ Drawn0 w w' := by
  have H : (if a0 ≥ (-100000000000) then (some (decide (a0 ≤ 100000000000))) else (some false)) = some r := h
  clear h
  by_cases c2 : a0 ≥ (-100000000000)
  · rw [if_pos c2] at H
    have c2b0 : decide ((-100000000000) ≤ a0) = true := decide_eq_true c2
    clear c2
    obtain rfl := Option.some.inj H
    go_enter Tryd.func15, Tryd.ntmps15
    go_wp2
    go_ret
    exact ⟨by first | rfl | (simp; done) | (simp [*]; done), by repeat (first | exact Drawn0.refl _ | apply Drawn0.step)⟩
  · rw [if_neg c2] at H
    have c2b0 : decide ((-100000000000) ≤ a0) = false := decide_eq_false c2
    clear c2
    obtain rfl := Option.some.inj H
    go_enter Tryd.func15, Tryd.ntmps15
    go_wp2
    go_ret
    exact ⟨by first | rfl | (simp; done) | (simp [*]; done), by repeat (first | exact Drawn0.refl _ | apply Drawn0.step)⟩

/-! ### octavoref05_out: function 49 -/
def octavoref05_out.f (a0 : Int) : Option (Int × Bool) := (octavoref05_Good.f a0).bind fun t182 => (if t182 = true then (some (a0, true)) else (some (0, false)))
set_option maxHeartbeats 8000000 in
set_option maxRecDepth 100000 in
theorem octavoref05_out.calls (a0 : Int) (r1 : Int) (r2 : Bool) (w : World) (h : octavoref05_out.f a0 = some (r1, r2)) :
    Calls Tryd.prog 49 #[.int .i64 a0] w fun e w' => e = .returned (.tuple #[.int .i64 r1, .bool r2]) ∧ Drawn0 w w' := by
  have H : ((octavoref05_Good.f a0).bind fun t182 => (if t182 = true then (some (a0, true)) else (some (0, false)))) = some (r1, r2) := h
  clear h
  replace H := Option.bind_eq_some_iff.mp H
  obtain ⟨t182, A20, H⟩ := H
  replace H : (if t182 = true then (some (a0, true)) else (some (0, false))) = some (r1, r2) := H
  have A2 := Aside0.mk A20
  clear A20
  by_cases c3 : t182 = true
  · subst c3
    have H1 : (some (a0, true)) = some (r1, r2) := by rw [if_pos rfl] at H; exact H
    clear H
    have H := H1
    clear H1
    simp only [Option.some.injEq, Prod.mk.injEq] at H
    obtain ⟨rfl, rfl⟩ := H
    go_enter Tryd.func49, Tryd.ntmps49
    go_wp2_with (first | ((with_reducible refine gate_callee (f := 15) rfl ?_); refine goesL_ (some 5) rfl rfl Tryd.func15 (by kernel_rfl) rfl #[.int .i64 a0] rfl (by (try simp only [List.map_toArray, List.map_cons, List.map_nil]); first | done | rfl | (simp only [List.length_drop, List.length_take]; rfl)) ?_; (with_reducible refine (octavoref05_Good.calls a0 true _ A2.out).mono ?_); rintro e w' ⟨rfl, ⟨nd, rfl⟩⟩; refine ⟨_, rfl, ?_⟩))
    go_ret2
    exact ⟨by first | rfl | (simp; done) | (simp [*]; done), by repeat (first | exact Drawn0.refl _ | apply Drawn0.step)⟩
  · replace c3 := Bool.eq_false_iff.mpr c3
    subst c3
    have H1 : (some (0, false)) = some (r1, r2) := by rw [if_neg (show ¬ (false = true) by decide)] at H; exact H
    clear H
    have H := H1
    clear H1
    simp only [Option.some.injEq, Prod.mk.injEq] at H
    obtain ⟨rfl, rfl⟩ := H
    go_enter Tryd.func49, Tryd.ntmps49
    go_wp2_with (first | ((with_reducible refine gate_callee (f := 15) rfl ?_); refine goesL_ (some 5) rfl rfl Tryd.func15 (by kernel_rfl) rfl #[.int .i64 a0] rfl (by (try simp only [List.map_toArray, List.map_cons, List.map_nil]); first | done | rfl | (simp only [List.length_drop, List.length_take]; rfl)) ?_; (with_reducible refine (octavoref05_Good.calls a0 false _ A2.out).mono ?_); rintro e w' ⟨rfl, ⟨nd, rfl⟩⟩; refine ⟨_, rfl, ?_⟩))
    go_ret2
    exact ⟨by first | rfl | (simp; done) | (simp [*]; done), by repeat (first | exact Drawn0.refl _ | apply Drawn0.step)⟩

/-! ### octavoref05_Add: function 33 -/
def octavoref05_Add.f (a0 : Int) (a1 : Int) : Option (Int × Bool) := (octavoref05_Good.f a0).bind fun t183 => (if t183 = true then ((octavoref05_Good.f a1).bind fun t184 => (if t184 = true then ((octavoref05_out.f (wrap64 (a0 + a1))).bind fun bt185 => (some (bt185.1, bt185.2))) else (some (0, false)))) else (some (0, false)))
set_option maxHeartbeats 8000000 in
set_option maxRecDepth 100000 in
theorem octavoref05_Add.calls (a0 : Int) (a1 : Int) (r1 : Int) (r2 : Bool) (w : World) (h : octavoref05_Add.f a0 a1 = some (r1, r2)) :
    Calls Tryd.prog 33 #[.int .i64 a0, .int .i64 a1] w fun e w' => e = .returned (.tuple #[.int .i64 r1, .bool r2]) ∧ Drawn0 w w' := by
  have H : ((octavoref05_Good.f a0).bind fun t183 => (if t183 = true then ((octavoref05_Good.f a1).bind fun t184 => (if t184 = true then ((octavoref05_out.f (wrap64 (a0 + a1))).bind fun bt185 => (some (bt185.1, bt185.2))) else (some (0, false)))) else (some (0, false)))) = some (r1, r2) := h
  clear h
  replace H := Option.bind_eq_some_iff.mp H
  obtain ⟨t183, A30, H⟩ := H
  replace H : (if t183 = true then ((octavoref05_Good.f a1).bind fun t184 => (if t184 = true then ((octavoref05_out.f (wrap64 (a0 + a1))).bind fun bt185 => (some (bt185.1, bt185.2))) else (some (0, false)))) else (some (0, false))) = some (r1, r2) := H
  have A3 := Aside0.mk A30
  clear A30
  by_cases c4 : t183 = true
  · subst c4
    have H1 : ((octavoref05_Good.f a1).bind fun t184 => (if t184 = true then ((octavoref05_out.f (wrap64 (a0 + a1))).bind fun bt185 => (some (bt185.1, bt185.2))) else (some (0, false)))) = some (r1, r2) := by rw [if_pos rfl] at H; exact H
    clear H
    have H := H1
    clear H1
    replace H := Option.bind_eq_some_iff.mp H
    obtain ⟨t184, A50, H⟩ := H
    replace H : (if t184 = true then ((octavoref05_out.f (wrap64 (a0 + a1))).bind fun bt185 => (some (bt185.1, bt185.2))) else (some (0, false))) = some (r1, r2) := H
    have A5 := Aside0.mk A50
    clear A50
    by_cases c6 : t184 = true
    · subst c6
      have H1 : ((octavoref05_out.f (wrap64 (a0 + a1))).bind fun bt185 => (some (bt185.1, bt185.2))) = some (r1, r2) := by rw [if_pos rfl] at H; exact H
      clear H
      have H := H1
      clear H1
      replace H := Option.bind_eq_some_iff.mp H
      obtain ⟨⟨t185, t186⟩, A70, H⟩ := H
      replace H : (some (t185, t186)) = some (r1, r2) := H
      have A7 := Aside0.mk A70
      clear A70
      simp only [Option.some.injEq, Prod.mk.injEq] at H
      obtain ⟨rfl, rfl⟩ := H
      go_enter Tryd.func33, Tryd.ntmps33
      go_wp2_with (first | ((with_reducible refine gate_callee (f := 15) rfl ?_); refine goesL_ (some 7) rfl rfl Tryd.func15 (by kernel_rfl) rfl #[.int .i64 a0] rfl (by (try simp only [List.map_toArray, List.map_cons, List.map_nil]); first | done | rfl | (simp only [List.length_drop, List.length_take]; rfl)) ?_; (with_reducible refine (octavoref05_Good.calls a0 true _ A3.out).mono ?_); rintro e w' ⟨rfl, ⟨nd, rfl⟩⟩; refine ⟨_, rfl, ?_⟩) | (go_at_call 15; (with_reducible refine (octavoref05_Good.calls a1 true _ A5.out).mono ?_); rintro e w' ⟨rfl, ⟨nd, rfl⟩⟩) | ((with_reducible refine gate_callee (f := 49) rfl ?_); refine goesL_ (some 17) rfl rfl Tryd.func49 (by kernel_rfl) rfl #[.int .i64 (wrap64 (a0 + a1))] rfl (by (try simp only [List.map_toArray, List.map_cons, List.map_nil]); first | done | rfl | (simp only [List.length_drop, List.length_take]; rfl)) ?_; (with_reducible refine (octavoref05_out.calls (wrap64 (a0 + a1)) t185 t186 _ A7.out).mono ?_); rintro e w' ⟨rfl, ⟨nd, rfl⟩⟩; refine ⟨_, rfl, ?_⟩))
      go_ret2
      exact ⟨by first | rfl | (simp; done) | (simp [*]; done), by repeat (first | exact Drawn0.refl _ | apply Drawn0.step)⟩
    · replace c6 := Bool.eq_false_iff.mpr c6
      subst c6
      have H1 : (some (0, false)) = some (r1, r2) := by rw [if_neg (show ¬ (false = true) by decide)] at H; exact H
      clear H
      have H := H1
      clear H1
      simp only [Option.some.injEq, Prod.mk.injEq] at H
      obtain ⟨rfl, rfl⟩ := H
      go_enter Tryd.func33, Tryd.ntmps33
      go_wp2_with (first | ((with_reducible refine gate_callee (f := 15) rfl ?_); refine goesL_ (some 7) rfl rfl Tryd.func15 (by kernel_rfl) rfl #[.int .i64 a0] rfl (by (try simp only [List.map_toArray, List.map_cons, List.map_nil]); first | done | rfl | (simp only [List.length_drop, List.length_take]; rfl)) ?_; (with_reducible refine (octavoref05_Good.calls a0 true _ A3.out).mono ?_); rintro e w' ⟨rfl, ⟨nd, rfl⟩⟩; refine ⟨_, rfl, ?_⟩) | (go_at_call 15; (with_reducible refine (octavoref05_Good.calls a1 false _ A5.out).mono ?_); rintro e w' ⟨rfl, ⟨nd, rfl⟩⟩))
      go_ret2
      exact ⟨by first | rfl | (simp; done) | (simp [*]; done), by repeat (first | exact Drawn0.refl _ | apply Drawn0.step)⟩
  · replace c4 := Bool.eq_false_iff.mpr c4
    subst c4
    have H1 : (some (0, false)) = some (r1, r2) := by rw [if_neg (show ¬ (false = true) by decide)] at H; exact H
    clear H
    have H := H1
    clear H1
    simp only [Option.some.injEq, Prod.mk.injEq] at H
    obtain ⟨rfl, rfl⟩ := H
    go_enter Tryd.func33, Tryd.ntmps33
    go_wp2_with (first | ((with_reducible refine gate_callee (f := 15) rfl ?_); refine goesL_ (some 7) rfl rfl Tryd.func15 (by kernel_rfl) rfl #[.int .i64 a0] rfl (by (try simp only [List.map_toArray, List.map_cons, List.map_nil]); first | done | rfl | (simp only [List.length_drop, List.length_take]; rfl)) ?_; (with_reducible refine (octavoref05_Good.calls a0 false _ A3.out).mono ?_); rintro e w' ⟨rfl, ⟨nd, rfl⟩⟩; refine ⟨_, rfl, ?_⟩))
    go_ret2
    exact ⟨by first | rfl | (simp; done) | (simp [*]; done), by repeat (first | exact Drawn0.refl _ | apply Drawn0.step)⟩

/-! ### octavoref05_Sub: function 34 -/
def octavoref05_Sub.f (a0 : Int) (a1 : Int) : Option (Int × Bool) := (octavoref05_Good.f a0).bind fun t187 => (if t187 = true then ((octavoref05_Good.f a1).bind fun t188 => (if t188 = true then ((octavoref05_out.f (wrap64 (a0 - a1))).bind fun bt189 => (some (bt189.1, bt189.2))) else (some (0, false)))) else (some (0, false)))
set_option maxHeartbeats 8000000 in
set_option maxRecDepth 100000 in
theorem octavoref05_Sub.calls (a0 : Int) (a1 : Int) (r1 : Int) (r2 : Bool) (w : World) (h : octavoref05_Sub.f a0 a1 = some (r1, r2)) :
    Calls Tryd.prog 34 #[.int .i64 a0, .int .i64 a1] w fun e w' => e = .returned (.tuple #[.int .i64 r1, .bool r2]) ∧ Drawn0 w w' := by
  have H : ((octavoref05_Good.f a0).bind fun t187 => (if t187 = true then ((octavoref05_Good.f a1).bind fun t188 => (if t188 = true then ((octavoref05_out.f (wrap64 (a0 - a1))).bind fun bt189 => (some (bt189.1, bt189.2))) else (some (0, false)))) else (some (0, false)))) = some (r1, r2) := h
  clear h
  replace H := Option.bind_eq_some_iff.mp H
  obtain ⟨t187, A30, H⟩ := H
  replace H : (if t187 = true then ((octavoref05_Good.f a1).bind fun t188 => (if t188 = true then ((octavoref05_out.f (wrap64 (a0 - a1))).bind fun bt189 => (some (bt189.1, bt189.2))) else (some (0, false)))) else (some (0, false))) = some (r1, r2) := H
  have A3 := Aside0.mk A30
  clear A30
  by_cases c4 : t187 = true
  · subst c4
    have H1 : ((octavoref05_Good.f a1).bind fun t188 => (if t188 = true then ((octavoref05_out.f (wrap64 (a0 - a1))).bind fun bt189 => (some (bt189.1, bt189.2))) else (some (0, false)))) = some (r1, r2) := by rw [if_pos rfl] at H; exact H
    clear H
    have H := H1
    clear H1
    replace H := Option.bind_eq_some_iff.mp H
    obtain ⟨t188, A50, H⟩ := H
    replace H : (if t188 = true then ((octavoref05_out.f (wrap64 (a0 - a1))).bind fun bt189 => (some (bt189.1, bt189.2))) else (some (0, false))) = some (r1, r2) := H
    have A5 := Aside0.mk A50
    clear A50
    by_cases c6 : t188 = true
    · subst c6
      have H1 : ((octavoref05_out.f (wrap64 (a0 - a1))).bind fun bt189 => (some (bt189.1, bt189.2))) = some (r1, r2) := by rw [if_pos rfl] at H; exact H
      clear H
      have H := H1
      clear H1
      replace H := Option.bind_eq_some_iff.mp H
      obtain ⟨⟨t189, t190⟩, A70, H⟩ := H
      replace H : (some (t189, t190)) = some (r1, r2) := H
      have A7 := Aside0.mk A70
      clear A70
      simp only [Option.some.injEq, Prod.mk.injEq] at H
      obtain ⟨rfl, rfl⟩ := H
      go_enter Tryd.func34, Tryd.ntmps34
      go_wp2_with (first | ((with_reducible refine gate_callee (f := 15) rfl ?_); refine goesL_ (some 7) rfl rfl Tryd.func15 (by kernel_rfl) rfl #[.int .i64 a0] rfl (by (try simp only [List.map_toArray, List.map_cons, List.map_nil]); first | done | rfl | (simp only [List.length_drop, List.length_take]; rfl)) ?_; (with_reducible refine (octavoref05_Good.calls a0 true _ A3.out).mono ?_); rintro e w' ⟨rfl, ⟨nd, rfl⟩⟩; refine ⟨_, rfl, ?_⟩) | (go_at_call 15; (with_reducible refine (octavoref05_Good.calls a1 true _ A5.out).mono ?_); rintro e w' ⟨rfl, ⟨nd, rfl⟩⟩) | ((with_reducible refine gate_callee (f := 49) rfl ?_); refine goesL_ (some 17) rfl rfl Tryd.func49 (by kernel_rfl) rfl #[.int .i64 (wrap64 (a0 - a1))] rfl (by (try simp only [List.map_toArray, List.map_cons, List.map_nil]); first | done | rfl | (simp only [List.length_drop, List.length_take]; rfl)) ?_; (with_reducible refine (octavoref05_out.calls (wrap64 (a0 - a1)) t189 t190 _ A7.out).mono ?_); rintro e w' ⟨rfl, ⟨nd, rfl⟩⟩; refine ⟨_, rfl, ?_⟩))
      go_ret2
      exact ⟨by first | rfl | (simp; done) | (simp [*]; done), by repeat (first | exact Drawn0.refl _ | apply Drawn0.step)⟩
    · replace c6 := Bool.eq_false_iff.mpr c6
      subst c6
      have H1 : (some (0, false)) = some (r1, r2) := by rw [if_neg (show ¬ (false = true) by decide)] at H; exact H
      clear H
      have H := H1
      clear H1
      simp only [Option.some.injEq, Prod.mk.injEq] at H
      obtain ⟨rfl, rfl⟩ := H
      go_enter Tryd.func34, Tryd.ntmps34
      go_wp2_with (first | ((with_reducible refine gate_callee (f := 15) rfl ?_); refine goesL_ (some 7) rfl rfl Tryd.func15 (by kernel_rfl) rfl #[.int .i64 a0] rfl (by (try simp only [List.map_toArray, List.map_cons, List.map_nil]); first | done | rfl | (simp only [List.length_drop, List.length_take]; rfl)) ?_; (with_reducible refine (octavoref05_Good.calls a0 true _ A3.out).mono ?_); rintro e w' ⟨rfl, ⟨nd, rfl⟩⟩; refine ⟨_, rfl, ?_⟩) | (go_at_call 15; (with_reducible refine (octavoref05_Good.calls a1 false _ A5.out).mono ?_); rintro e w' ⟨rfl, ⟨nd, rfl⟩⟩))
      go_ret2
      exact ⟨by first | rfl | (simp; done) | (simp [*]; done), by repeat (first | exact Drawn0.refl _ | apply Drawn0.step)⟩
  · replace c4 := Bool.eq_false_iff.mpr c4
    subst c4
    have H1 : (some (0, false)) = some (r1, r2) := by rw [if_neg (show ¬ (false = true) by decide)] at H; exact H
    clear H
    have H := H1
    clear H1
    simp only [Option.some.injEq, Prod.mk.injEq] at H
    obtain ⟨rfl, rfl⟩ := H
    go_enter Tryd.func34, Tryd.ntmps34
    go_wp2_with (first | ((with_reducible refine gate_callee (f := 15) rfl ?_); refine goesL_ (some 7) rfl rfl Tryd.func15 (by kernel_rfl) rfl #[.int .i64 a0] rfl (by (try simp only [List.map_toArray, List.map_cons, List.map_nil]); first | done | rfl | (simp only [List.length_drop, List.length_take]; rfl)) ?_; (with_reducible refine (octavoref05_Good.calls a0 false _ A3.out).mono ?_); rintro e w' ⟨rfl, ⟨nd, rfl⟩⟩; refine ⟨_, rfl, ?_⟩))
    go_ret2
    exact ⟨by first | rfl | (simp; done) | (simp [*]; done), by repeat (first | exact Drawn0.refl _ | apply Drawn0.step)⟩

/-! ### octavoref05_abs: function 60 -/
def octavoref05_abs.f (a0 : Int) : Option (Int) := if a0 < 0 then (some (wrap64 (-a0))) else (some a0)
set_option maxHeartbeats 8000000 in
set_option maxRecDepth 100000 in
theorem octavoref05_abs.calls (a0 : Int) (r : Int) (w : World) (h : octavoref05_abs.f a0 = some r) :
    Calls Tryd.prog 60 #[.int .i64 a0] w fun e w' => e = .returned (.int .i64 r) ∧ Drawn0 w w' := by
  have H : (if a0 < 0 then (some (wrap64 (-a0))) else (some a0)) = some r := h
  clear h
  by_cases c2 : a0 < 0
  · rw [if_pos c2] at H
    have c2b0 : decide (a0 < 0) = true := decide_eq_true c2
    clear c2
    obtain rfl := Option.some.inj H
    go_enter Tryd.func60, Tryd.ntmps60
    go_wp2
    go_ret
    exact ⟨by first | rfl | (simp; done) | (simp [*]; done), by repeat (first | exact Drawn0.refl _ | apply Drawn0.step)⟩
  · rw [if_neg c2] at H
    have c2b0 : decide (a0 < 0) = false := decide_eq_false c2
    clear c2
    obtain rfl := Option.some.inj H
    go_enter Tryd.func60, Tryd.ntmps60
    go_wp2
    go_ret
    exact ⟨by first | rfl | (simp; done) | (simp [*]; done), by repeat (first | exact Drawn0.refl _ | apply Drawn0.step)⟩

/-! ### octavoref05_signed: function 61 -/
def octavoref05_signed.f (a0 : Int) (a1 : Int) (a2 : Int) : Option (Int × Bool) := if ((decide (a1 < 0)) != (decide (a2 < 0))) = true then ((octavoref05_out.f (wrap64 (-a0))).bind fun bt191 => (some (bt191.1, bt191.2))) else ((octavoref05_out.f a0).bind fun bt193 => (some (bt193.1, bt193.2)))
set_option maxHeartbeats 8000000 in
set_option maxRecDepth 100000 in
theorem octavoref05_signed.calls (a0 : Int) (a1 : Int) (a2 : Int) (r1 : Int) (r2 : Bool) (w : World) (h : octavoref05_signed.f a0 a1 a2 = some (r1, r2)) :
    Calls Tryd.prog 61 #[.int .i64 a0, .int .i64 a1, .int .i64 a2] w fun e w' => e = .returned (.tuple #[.int .i64 r1, .bool r2]) ∧ Drawn0 w w' := by
  have H : (if ((decide (a1 < 0)) != (decide (a2 < 0))) = true then ((octavoref05_out.f (wrap64 (-a0))).bind fun bt191 => (some (bt191.1, bt191.2))) else ((octavoref05_out.f a0).bind fun bt193 => (some (bt193.1, bt193.2)))) = some (r1, r2) := h
  clear h
  by_cases c4 : ((decide (a1 < 0)) != (decide (a2 < 0))) = true
  · rw [if_pos c4] at H
    have c4b0 : ((decide (a1 < 0)) != (decide (a2 < 0))) = true := c4
    (try (have c4b1 : decide ((decide (a1 < 0)) = (decide (a2 < 0))) = false := by simpa using c4))
    (try (have c4b2 : ((decide (a1 < 0)) == (decide (a2 < 0))) = false := by simpa using c4))
    (try (have c4b3 : ¬ ((decide (a1 < 0)) = (decide (a2 < 0))) := by simpa using c4))
    clear c4
    replace H := Option.bind_eq_some_iff.mp H
    obtain ⟨⟨t191, t192⟩, A50, H⟩ := H
    replace H : (some (t191, t192)) = some (r1, r2) := H
    have A5 := Aside0.mk A50
    clear A50
    simp only [Option.some.injEq, Prod.mk.injEq] at H
    obtain ⟨rfl, rfl⟩ := H
    go_enter Tryd.func61, Tryd.ntmps61
    go_wp2_with (first | ((with_reducible refine gate_callee (f := 49) rfl ?_); refine goesL_ (some 16) rfl rfl Tryd.func49 (by kernel_rfl) rfl #[.int .i64 (wrap64 (-a0))] rfl (by (try simp only [List.map_toArray, List.map_cons, List.map_nil]); first | done | rfl | (simp only [List.length_drop, List.length_take]; rfl)) ?_; (with_reducible refine (octavoref05_out.calls (wrap64 (-a0)) t191 t192 _ A5.out).mono ?_); rintro e w' ⟨rfl, ⟨nd, rfl⟩⟩; refine ⟨_, rfl, ?_⟩))
    go_ret2
    exact ⟨by first | rfl | (simp; done) | (simp [*]; done), by repeat (first | exact Drawn0.refl _ | apply Drawn0.step)⟩
  · rw [if_neg c4] at H
    have c4b0 : ((decide (a1 < 0)) != (decide (a2 < 0))) = false := by simpa using c4
    (try (have c4b1 : decide ((decide (a1 < 0)) = (decide (a2 < 0))) = true := by simpa using c4))
    (try (have c4b2 : ((decide (a1 < 0)) == (decide (a2 < 0))) = true := by simpa using c4))
    clear c4
    replace H := Option.bind_eq_some_iff.mp H
    obtain ⟨⟨t193, t194⟩, A60, H⟩ := H
    replace H : (some (t193, t194)) = some (r1, r2) := H
    have A6 := Aside0.mk A60
    clear A60
    simp only [Option.some.injEq, Prod.mk.injEq] at H
    obtain ⟨rfl, rfl⟩ := H
    go_enter Tryd.func61, Tryd.ntmps61
    go_wp2_with (first | ((with_reducible refine gate_callee (f := 49) rfl ?_); refine goesL_ (some 16) rfl rfl Tryd.func49 (by kernel_rfl) rfl #[.int .i64 a0] rfl (by (try simp only [List.map_toArray, List.map_cons, List.map_nil]); first | done | rfl | (simp only [List.length_drop, List.length_take]; rfl)) ?_; (with_reducible refine (octavoref05_out.calls a0 t193 t194 _ A6.out).mono ?_); rintro e w' ⟨rfl, ⟨nd, rfl⟩⟩; refine ⟨_, rfl, ?_⟩))
    go_ret2
    exact ⟨by first | rfl | (simp; done) | (simp [*]; done), by repeat (first | exact Drawn0.refl _ | apply Drawn0.step)⟩

end Go.Proofs.YtficjmgofbdohaaDoor.P
