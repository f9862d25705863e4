/- What rounding comes to, in the program and in the document's answer. -/
import Derived.Test.YtficjmgofbdohaaDoorNumA
import Derived.Test.YtficjmgofbdohaaDoorPx1
import Derived.Test.YtficjmgofbdohaaDoorPx10
import Derived.Test.YtficjmgofbdohaaDoorPx8
namespace Go.Proofs.YtficjmgofbdohaaDoor.Nm
open Go.RowKit Go.Proofs.YtficjmgofbdohaaDoor.P Go.Proofs.YtficjmgofbdohaaDoorW.PrintWords Go.Proofs.YtficjmgofbdohaaDoorW.PrintLast
set_option linter.unusedVariables false
set_option linter.unusedSimpArgs false

theorem tens (j : Nat) (h : j ≤ 12) : (1 : Int) ≤ ((10 ^ j : Nat) : Int) ∧ ((10 ^ j : Nat) : Int) ≤ 1000000000000 := by
  have a := Nat.pow_le_pow_right (show 0 < 10 by omega) h
  have b := Nat.pow_pos (n := j) (show 0 < 10 by omega)
  have : (10 ^ 12 : Nat) = 1000000000000 := by decide
  omega
theorem tens_succ (j : Nat) : ((10 ^ (j + 1) : Nat) : Int) = ((10 ^ j : Nat) : Int) * 10 := by
  rw [Nat.pow_succ]; omega

/-- is a number with the rest r, of a place u wide, rounded up? -/
def upw (n u r how : Int) : Bool := if how = 0 then decide (2 * r > u ∨ (2 * r = u ∧ n > 0)) else if how = 1 then decide (n > 0) else if how = 2 then decide (n < 0) else decide (how = 3)
def rndu (n u how : Int) : Int × Bool :=
  if n % u = 0 then (n, true) else out (n - n % u + if upw n u (n % u) how = true then u else 0)
def rnd (n d how : Int) : Int × Bool :=
  if good n ∧ -8 ≤ d ∧ d ≤ 4 ∧ 0 ≤ how ∧ how ≤ 4 then rndu n ((10 ^ (4 - d).toNat : Nat) : Int) how else (0, false)

theorem flr_pos {a b : Int} (h : 0 < b) : flr a b = a / b := if_pos h
theorem at_rest {n u : Int} (hu : 0 < u) : n = u * (n / u) + n % u ∧ 0 ≤ n % u ∧ n % u < u :=
  ⟨(Int.mul_ediv_add_emod n u).symm, Int.emod_nonneg _ (by omega), Int.emod_lt_of_pos _ hu⟩

theorem told_pair {o : Option (Int × Bool)} {v : Int × Bool} (h : o = some v) : (o.bind fun t => some (t.1, t.2)) = some v := by subst h; rfl


theorem Round_end {n how u : Int} (t : Int) (g : good n) (h0 : 0 ≤ how) (h4 : how ≤ 4) (u1 : 1 ≤ u) (u2 : u ≤ 1000000000000) : Ev (fun k => num_Round.l0 k n how u t t) (rndu n u how) := by
  unfold good at g
  obtain ⟨e, r0, r1⟩ := at_rest (n := n) (show 0 < u by omega)
  have fl := (floor_is (a := n) (b := u) (by omega) g (by omega)).1
  rw [flr_pos (by omega)] at fl
  have e2 : n / u * u = n - n % u := by rw [Int.mul_comm]; omega
  refine E.succ (E.neg (by omega) (E.bindn fl ?_))
  simp only [e2]
  unfold rndu
  generalize n % u = r at *
  rw [E.w64 (x := n - r) (by omega) (by omega), show n - (n - r) = r by omega, E.w64 (x := r) (by omega) (by omega), E.w64 (x := 2 * r) (by omega) (by omega), E.w64 (x := n - r) (by omega) (by omega), E.w64 (x := n - r + u) (by omega) (by omega)]
  refine E.ite (fun c => by rw [if_pos c]; exact Ev.now _) (fun c => ?_)
  rw [if_neg c]
  have fin : ∀ b : Bool, b = upw n u r how → Ev (fun _ : Nat => if b = true then ((num_told.f (n - r + u)).bind fun t => some (t.1, t.2)) else ((num_told.f (n - r)).bind fun t => some (t.1, t.2))) (out (n - r + if upw n u r how = true then u else 0)) := by
    intro b hb
    subst hb
    by_cases z : upw n u r how = true
    · rw [show (n - r + if upw n u r how = true then u else 0) = n - r + u by rw [if_pos z]]; exact E.pos z (Ev.congr (fun _ => told_pair (told_is _)) (Ev.now _))
    · rw [show (n - r + if upw n u r how = true then u else 0) = n - r by rw [if_neg z]; omega]; exact E.neg z (Ev.congr (fun _ => told_pair (told_is _)) (Ev.now _))
  have hs : how = 0 ∨ how = 1 ∨ how = 2 ∨ how = 3 ∨ how = 4 := by omega
  refine E.ite (fun c1 => E.pos h0 (E.pos (by omega) (fin _ ?_))) (fun c1 => E.ite (fun c2 => E.pos h0 (E.pos (by omega) (fin _ ?_))) (fun c2 => E.pos h0 (E.pos (by omega) (fin _ ?_))))
  · rcases hs with rfl | rfl | rfl | rfl | rfl <;> simp [upw, rdOf, c1]
  · rcases hs with rfl | rfl | rfl | rfl | rfl <;> simp [upw, rdOf, c1, c2]
  · rcases hs with rfl | rfl | rfl | rfl | rfl <;> simp [upw, rdOf, c1, c2]

theorem Round_l {n how : Int} {r : Int × Bool} (t : Nat) (ht : t ≤ 12) (h : Ev (fun k => num_Round.l0 k n how ((10 ^ t : Nat) : Int) t t) r) : ∀ m j : Nat, j + m = t → Ev (fun k => num_Round.l0 k n how ((10 ^ j : Nat) : Int) t j) r := by
  intro m
  induction m with
  | zero => intro j e; rw [show j = t by omega]; exact h
  | succ m ih =>
    intro j e
    have b := tens j (by omega)
    refine E.succ (E.pos (by omega) ?_)
    rw [← tens_succ, E.w64 (x := (j : Int) + 1) (by omega) (by omega), E.w64 (by rw [tens_succ]; omega) (by rw [tens_succ]; omega)]
    exact ih (j + 1) (by omega)

theorem Round_is (n d how : Int) (hd : -9223372036854775808 ≤ d ∧ d ≤ 9223372036854775807) : Ev (fun k => num_Round.f k n d how) (rnd n d how) := by
  have no : Ev (fun k => num_Round.j0 k n d how true) (0, false) := by
    refine E.succ ?_
    simp only [num_Round.j0]
    exact E.pos trivial (Ev.now _)
  refine E.bindn (Good_is n) ?_
  unfold rnd
  by_cases c : good n ∧ -8 ≤ d ∧ d ≤ 4 ∧ 0 ≤ how ∧ how ≤ 4
  · obtain ⟨g, c1, c2, c3, c4⟩ := c
    rw [if_pos ⟨g, c1, c2, c3, c4⟩]
    refine E.pos (decide_eq_true g) (E.neg (by omega) (E.neg (by omega) (E.neg (by omega) (E.succ (E.neg (by simp; omega) ?_)))))
    rw [E.w64 (x := 4 - d) (by omega) (by omega)]
    obtain ⟨t, ht⟩ : ∃ t : Nat, 4 - d = t := ⟨(4 - d).toNat, by omega⟩
    rw [ht]
    have := tens t (by omega)
    exact Round_l t (by omega) (Round_end t g c3 c4 this.1 this.2) t 0 (by omega)
  · rw [if_neg c]
    refine E.ite (fun a => E.ite (fun _ => no) (fun b => E.ite (fun _ => no) (fun b2 => E.ite (fun _ => no) (fun b3 => ?_)))) (fun _ => no)
    exact E.succ (E.pos (by simp only [decide_eq_true_eq] at a ⊢; omega) (Ev.now _))

theorem rRound_end {n how u d : Int} (g : good n) (h0 : 0 ≤ how) (h4 : how ≤ 4) (u1 : 1 ≤ u) (u2 : u ≤ 1000000000000) (h : ¬ d < 4) : Ev (fun k => octavoref05_Round.l0 k n how u d) (rndu n u how) := by
  unfold good at g
  obtain ⟨e, r0, r1⟩ := at_rest (n := n) (show 0 < u by omega)
  have fl := (floor_is (a := n) (b := u) (by omega) g (by omega)).2
  rw [flr_pos (by omega)] at fl
  have e2 : n / u * u = n - n % u := by rw [Int.mul_comm]; omega
  refine E.succ (E.neg h (E.bindn fl ?_))
  simp only [e2]
  unfold rndu
  generalize n % u = r at *
  rw [E.w64 (x := n - r) (by omega) (by omega), show n - (n - r) = r by omega, E.w64 (x := r) (by omega) (by omega), E.w64 (x := n - r + u) (by omega) (by omega), E.w64 (x := n - r + u - n) (by omega) (by omega)]
  refine E.ite (fun c => by rw [if_pos (by omega)]; exact Ev.now _) (fun c => ?_)
  rw [if_neg (by omega)]
  have fin : ∀ b : Bool, b = upw n u r how → Ev (fun k => octavoref05_Round.j2 k (n - r) (n - r + u) b) (out (n - r + if upw n u r how = true then u else 0)) := by
    intro b hb
    subst hb
    refine E.succ ?_
    by_cases z : upw n u r how = true
    · rw [show (n - r + if upw n u r how = true then u else 0) = n - r + u by rw [if_pos z]]; exact E.pos z (Ev.congr (fun _ => told_pair (rout_is _)) (Ev.now _))
    · rw [show (n - r + if upw n u r how = true then u else 0) = n - r by rw [if_neg z]; omega]; exact E.neg z (Ev.congr (fun _ => told_pair (rout_is _)) (Ev.now _))
  refine E.ite (fun c1 => E.ite (fun c2 => fin _ ?_) (fun c2 => E.ite (fun c3 => fin _ ?_) (fun c3 => fin _ ?_))) (fun c1 => E.ite (fun c2 => fin _ ?_) (fun c2 => E.ite (fun c3 => fin _ ?_) (fun c3 => E.ite (fun c4 => fin _ ?_) (fun c4 => fin _ ?_))))
  · subst c1; simp [upw]; omega
  · subst c1; simp [upw]; by_cases z : 0 < n <;> simp [z] <;> omega
  · subst c1; simp [upw]; omega
  · simp [upw, c2]
  · simp [upw, c3]
  · simp [upw, c4]
  · simp [upw, c1, c2, c3, c4]

theorem rRound_l {n how : Int} {r : Int × Bool} (t : Nat) (ht : t ≤ 12) (h : Ev (fun k => octavoref05_Round.l0 k n how ((10 ^ t : Nat) : Int) 4) r) : ∀ m j : Nat, j + m = t → Ev (fun k => octavoref05_Round.l0 k n how ((10 ^ j : Nat) : Int) (4 - m)) r := by
  intro m
  induction m with
  | zero => intro j e; rw [show j = t by omega]; exact h
  | succ m ih =>
    intro j e
    have b := tens j (by omega)
    refine E.succ (E.pos (by omega) ?_)
    rw [← tens_succ, show (4 : Int) - ((m + 1 : Nat) : Int) + 1 = 4 - m by omega, E.w64 (x := (4 : Int) - m) (by omega) (by omega), E.w64 (by rw [tens_succ]; omega) (by rw [tens_succ]; omega)]
    exact ih (j + 1) (by omega)

theorem rRound_is (n d how : Int) : Ev (fun k => octavoref05_Round.f k n d how) (rnd n d how) := by
  have no : Ev (fun k => octavoref05_Round.j0 k n d how true) (0, false) := by
    refine E.succ ?_
    simp only [octavoref05_Round.j0]
    exact E.pos trivial (Ev.now _)
  refine E.bindn (rGood_is n) ?_
  unfold rnd
  by_cases c : good n ∧ -8 ≤ d ∧ d ≤ 4 ∧ 0 ≤ how ∧ how ≤ 4
  · obtain ⟨g, c1, c2, c3, c4⟩ := c
    rw [if_pos ⟨g, c1, c2, c3, c4⟩]
    refine E.pos (decide_eq_true g) (E.neg (by omega) (E.neg (by omega) (E.neg (by omega) (E.succ (E.neg (by simp; omega) ?_)))))
    obtain ⟨t, ht⟩ : ∃ t : Nat, 4 - d = t := ⟨(4 - d).toNat, by omega⟩
    rw [ht, show d = 4 - (t : Int) by omega]
    have := tens t (by omega)
    exact rRound_l t (by omega) (rRound_end g c3 c4 this.1 this.2 (by omega)) t 0 (by omega)
  · rw [if_neg c]
    refine E.ite (fun a => E.ite (fun _ => no) (fun b => E.ite (fun _ => no) (fun b2 => E.ite (fun _ => no) (fun b3 => ?_)))) (fun _ => no)
    exact E.succ (E.pos (by simp only [decide_eq_true_eq] at a ⊢; omega) (Ev.now _))
end Go.Proofs.YtficjmgofbdohaaDoor.Nm
