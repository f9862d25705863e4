/- What binomial coefficients come to, in the program and in the document's answer. -/
import Derived.Test.YtficjmgofbdohaaDoorNumE
import Derived.Test.YtficjmgofbdohaaDoorPx7
namespace Go.Proofs.YtficjmgofbdohaaDoor.Nm
open Go.RowKit Go.Proofs.YtficjmgofbdohaaDoor.P Go.Proofs.YtficjmgofbdohaaDoorW.PrintWords Go.Proofs.YtficjmgofbdohaaDoorW.PrintLast
set_option linter.unusedVariables false
set_option linter.unusedSimpArgs false

/-- Pascal's rows -/
def ch : Nat → Nat → Nat
  | _, 0 => 1
  | 0, _ + 1 => 0
  | n + 1, i + 1 => ch n i + ch n (i + 1)
theorem ch_zero (n : Nat) : ch n 0 = 1 := by cases n <;> rfl
theorem ch_succ (n i : Nat) : ch (n + 1) (i + 1) = ch n i + ch n (i + 1) := rfl
theorem ch_up : ∀ (m i : Nat), ch (m + 1) (i + 1) * (i + 1) = (m + 1) * ch m i := by
  intro m
  induction m with
  | zero =>
    intro i
    cases i with
    | zero => rfl
    | succ i => simp [ch]
  | succ m ih =>
    intro i
    rw [ch_succ, Nat.add_mul, ih i]
    cases i with
    | zero => rw [ch_zero, ch_zero]; omega
    | succ j =>
      have h := ih j
      rw [ch_succ m j, Nat.add_mul] at h
      rw [ch_succ m j]
      have e : (m + 1) * ch m j + (m + 1) * ch m (j + 1) = (m + 1) * (ch m j + ch m (j + 1)) := (Nat.mul_add _ _ _).symm
      have a1 : (ch m j + ch m (j + 1)) * (j + 1 + 1) = ch m j * (j + 1) + ch m (j + 1) * (j + 1) + (ch m j + ch m (j + 1)) := by
        rw [Nat.mul_succ, Nat.add_mul]
      have a2 : (m + 1 + 1) * (ch m j + ch m (j + 1)) = (m + 1) * (ch m j + ch m (j + 1)) + (ch m j + ch m (j + 1)) := Nat.succ_mul _ _
      rw [a1, a2, ← e]
      omega
theorem ch_next (n i : Nat) (h : i ≤ n) : ch n (i + 1) * (i + 1) = ch n i * (n - i) := by
  have u := ch_up n i
  rw [ch_succ, Nat.add_mul] at u
  have a : ch n i * (n - i) + ch n i * (i + 1) = (n + 1) * ch n i := by
    rw [← Nat.mul_add, Nat.mul_comm]; congr 1; omega
  omega
theorem ch_pos : ∀ (n i : Nat), i ≤ n → 1 ≤ ch n i := by
  intro n
  induction n with
  | zero => intro i h; have : i = 0 := by omega
            subst this; exact Nat.le_refl 1
  | succ n ih =>
    intro i h
    cases i with
    | zero => rw [ch_zero]; exact Nat.le_refl 1
    | succ i => rw [ch_succ]; have := ih i (by omega); omega
theorem ch_mono1 (n i : Nat) (h : 2 * (i + 1) ≤ n) : ch n i ≤ ch n (i + 1) := by
  have e := ch_next n i (by omega)
  have a : ch n i * (i + 1) ≤ ch n i * (n - i) := Nat.mul_le_mul_left _ (by omega)
  rw [← e] at a
  exact Nat.le_of_mul_le_mul_right a (by omega)
theorem ch_mono (n : Nat) : ∀ (r i : Nat), 2 * (i + r) ≤ n → ch n i ≤ ch n (i + r) := by
  intro r
  induction r with
  | zero => intro i h; exact Nat.le_refl _
  | succ r ih =>
    intro i h
    have a := ih i (by omega)
    have b := ch_mono1 n (i + r) (by omega)
    exact Nat.le_trans a b
theorem ch_one (n : Nat) : ch n 1 = n := by
  simpa [ch_zero] using ch_next n 0 (by omega)
theorem ch_ge (n k : Nat) (h1 : 1 ≤ k) (h : 2 * k ≤ n) : n ≤ ch n k := by
  have := ch_mono n (k - 1) 1 (by omega)
  rw [ch_one, show 1 + (k - 1) = k by omega] at this
  exact this
theorem ch_diag1 (m i : Nat) : ch m i ≤ ch (m + 1) (i + 1) := by rw [ch_succ]; omega
theorem ch_diag (m : Nat) : ∀ (r i : Nat), ch (m + i) i ≤ ch (m + (i + r)) (i + r) := by
  intro r
  induction r with
  | zero => intro i; exact Nat.le_refl _
  | succ r ih => intro i; exact Nat.le_trans (ih i) (ch_diag1 _ _)

def cres (n k : Nat) : Int × Bool := if ch n k ≤ 10000000 then ((ch n k : Int) * 10000, true) else (0, false)
theorem cres_no {n k : Nat} (h : ch n k ≤ 10000000 → False) : cres n k = (0, false) := if_neg h

theorem Comb_l {n k : Nat} (hn : n ≤ 9223372036854775807) (hk : 2 * k ≤ n) : ∀ (r i : Nat), i + r = k → ch n i ≤ 1099511627776 → Ev (fun j => num_Comb.l0 j n (ch n i) k i) (cres n k) := by
  intro r
  induction r with
  | zero =>
    intro i e b
    have : i = k := by omega
    subst this
    refine E.succ (E.neg (by omega) (E.ite (fun c => ?_) (fun c => ?_)))
    · rw [cres_no (by omega)]; exact Ev.now _
    · unfold cres
      rw [if_pos (by omega), E.w64 (x := (ch n i : Int)) (by omega) (by omega), E.w64 (by omega) (by omega)]
      exact Ev.now _
  | succ r ih =>
    intro i e b
    have nx := ch_next n i (by omega)
    have mo := ch_mono n r (i + 1) (by omega)
    rw [show i + 1 + r = k by omega] at mo
    have ge := ch_ge n k (by omega) hk
    refine E.succ (E.pos (by omega) ?_)
    rw [E.w64 (x := (n : Int) - i) (by omega) (by omega), E.w64 (x := (i : Int) + 1) (by omega) (by omega), wu (x := (n : Int) - i) (by omega) (by omega), wu (x := (i : Int) + 1) (by omega) (by omega)]
    refine E.bindn (mul64_is (by omega) (by omega) (by omega) (by omega)) ?_
    have pe : (ch n i : Int) * ((n : Int) - i) = ((ch n i * (n - i) : Nat) : Int) := by
      rw [show (n : Int) - i = ((n - i : Nat) : Int) by omega, Int.natCast_mul]
    simp only
    rw [pe, ← nx]
    have small : ch n k ≤ 10000000 → ch n (i + 1) * (i + 1) ≤ 100000000000000 := fun h => by
      have := Nat.mul_le_mul (show ch n (i + 1) ≤ 10000000 by omega) (show i + 1 ≤ 10000000 by omega)
      omega
    refine E.ite (fun c => ?_) (fun c => E.neg (by omega) ?_)
    · rw [cres_no (fun h => by have := small h; omega)]; exact Ev.now _
    · have q : Int.tdiv (((ch n (i + 1) * (i + 1) : Nat) : Int) % 18446744073709551616) ((i : Int) + 1) = (ch n (i + 1) : Int) := by
        rw [show ((ch n (i + 1) * (i + 1) : Nat) : Int) % 18446744073709551616 = ((ch n (i + 1) * (i + 1) : Nat) : Int) by omega, Int.natCast_mul, show ((i + 1 : Nat) : Int) = (i : Int) + 1 by omega]
        exact Int.mul_tdiv_cancel _ (by omega)
      have cb : ch n (i + 1) ≤ ch n (i + 1) * (i + 1) := Nat.le_mul_of_pos_right _ (by omega)
      rw [q, wu (x := (ch n (i + 1) : Int)) (by omega) (by omega)]
      refine E.ite (fun c2 => ?_) (fun c2 => ?_)
      · rw [cres_no (fun h => by omega)]; exact Ev.now _
      · rw [show (i : Int) + 1 = ((i + 1 : Nat) : Int) by omega]
        exact ih (i + 1) (by omega) (by omega)

theorem rComb_l {n k : Nat} (hn : n ≤ 9223372036854775807) (hk : 2 * k ≤ n) : ∀ (r i : Nat), i + r = k → ch (n - k + i) i ≤ 10000000 → Ev (fun j => octavoref05_Comb.l0 j n k (ch (n - k + i) i) (i + 1)) (cres n k) := by
  intro r
  induction r with
  | zero =>
    intro i e b
    have : i = k := by omega
    subst this
    rw [show n - i + i = n by omega] at b ⊢
    refine E.succ (E.neg (by omega) ?_)
    unfold cres
    rw [if_pos b, E.w64 (x := (ch n i : Int) * 10000) (by omega) (by omega), rout_is]
    unfold out good
    rw [if_pos (by omega)]
    exact Ev.now _
  | succ r ih =>
    intro i e b
    have nx := ch_up (n - k + i) i
    have di := ch_diag (n - k) r (i + 1)
    rw [show i + 1 + r = k by omega, show n - k + k = n by omega, show n - k + (i + 1) = n - k + i + 1 by omega] at di
    have ge := ch_ge n k (by omega) hk
    have cp := ch_pos (n - k + i) i (by omega)
    refine E.succ (E.pos (by omega) ?_)
    rw [E.w64 (x := (n : Int) - k) (by omega) (by omega), E.w64 (x := (n : Int) - k + (i + 1)) (by omega) (by omega)]
    have me : (n : Int) - k + (i + 1) = ((n - k + i + 1 : Nat) : Int) := by omega
    rw [me]
    have stop : (ch n k ≤ 10000000 → False) → ∀ m : Int, Ev (fun j => octavoref05_Comb.j3 j n k (ch (n - k + i) i) (i + 1) m true) (cres n k) := fun h m => by
      rw [cres_no h]
      refine E.succ ?_
      simp only [octavoref05_Comb.j3]
      exact E.pos trivial (Ev.now _)
    generalize hM : n - k + i + 1 = M at *
    have small : ch n k ≤ 10000000 → M * ch (n - k + i) i ≤ 100000000000000 := fun h => by
      rw [← nx]
      have := Nat.mul_le_mul (show ch M (i + 1) ≤ 10000000 by omega) (show i + 1 ≤ 10000000 by omega)
      omega
    refine E.ite (fun c => stop (fun h => by omega) _) (fun c => E.neg (by omega) ?_)
    have td : Int.tdiv 1000000000000000 (M : Int) = ((1000000000000000 / M : Nat) : Int) := by
      rw [Int.tdiv_eq_ediv_of_nonneg (by omega)]; rfl
    have dl := Nat.div_le_self 1000000000000000 M
    have dm : ∀ x : Nat, x ≤ 1000000000000000 / M ↔ x * M ≤ 1000000000000000 := fun x => Nat.le_div_iff_mul_le (show 0 < M by omega)
    generalize 1000000000000000 / M = D at *
    rw [td, E.w64 (x := (D : Int)) (by omega) (by omega)]
    by_cases c2 : ch (n - k + i) i > D
    · rw [decide_eq_true (show (ch (n - k + i) i : Int) > (D : Int) by omega)]
      refine stop (fun h => ?_) _
      have s := small h
      have := (dm _).2 (show ch (n - k + i) i * M ≤ 1000000000000000 by rw [Nat.mul_comm]; omega)
      omega
    · rw [decide_eq_false (show ¬ (ch (n - k + i) i : Int) > (D : Int) by omega)]
      have le := (dm _).1 (show ch (n - k + i) i ≤ D by omega)
      refine E.succ ?_
      simp only [octavoref05_Comb.j3]
      have pe : (ch (n - k + i) i : Int) * (M : Int) = ((ch M (i + 1) * (i + 1) : Nat) : Int) := by
        rw [nx, Nat.mul_comm, Int.natCast_mul]
      have le2 : ch M (i + 1) * (i + 1) ≤ 1000000000000000 := by rw [nx, Nat.mul_comm]; exact le
      have cb : ch M (i + 1) ≤ ch M (i + 1) * (i + 1) := Nat.le_mul_of_pos_right _ (by omega)
      have q : Int.tdiv ((ch M (i + 1) * (i + 1) : Nat) : Int) ((i : Int) + 1) = (ch M (i + 1) : Int) := by
        rw [Int.natCast_mul, show ((i + 1 : Nat) : Int) = (i : Int) + 1 by omega]
        exact Int.mul_tdiv_cancel _ (by omega)
      rw [pe, E.w64 (x := ((ch M (i + 1) * (i + 1) : Nat) : Int)) (by omega) (by omega), q, E.w64 (x := (ch M (i + 1) : Int)) (by omega) (by omega), E.w64 (x := (i : Int) + 1 + 1) (by omega) (by omega)]
      refine E.neg (by simp) (E.neg (by omega) (E.ite (fun c3 => ?_) (fun c3 => ?_)))
      · rw [cres_no (fun h => by omega)]; exact Ev.now _
      · have := ih (i + 1) (by omega) (by rw [show n - k + (i + 1) = M by omega]; omega)
        rw [show n - k + (i + 1) = M by omega, show ((i + 1 : Nat) : Int) = (i : Int) + 1 by omega] at this
        exact this

theorem Comb_is (n k : Int) (hn : -9223372036854775808 ≤ n ∧ n ≤ 9223372036854775807) (hk : -9223372036854775808 ≤ k ∧ k ≤ 9223372036854775807) : ∃ r, Ev (fun j => num_Comb.f j n k) r ∧ Ev (fun j => octavoref05_Comb.f j n k) r := by
  have no1 : Ev (fun j => num_Comb.j0 j n k true) (0, false) := by
    refine E.succ ?_
    simp only [num_Comb.j0]
    exact E.pos trivial (Ev.now _)
  have no2 : Ev (fun j => octavoref05_Comb.j0 j n k true) (0, false) := by
    refine E.succ ?_
    simp only [octavoref05_Comb.j0]
    exact E.pos trivial (Ev.now _)
  by_cases c1 : n < 0
  · exact ⟨_, E.pos c1 (by rw [decide_eq_true c1]; exact no1), E.pos c1 no2⟩
  by_cases c2 : k < 0
  · exact ⟨_, E.neg c1 (by rw [decide_eq_true c2]; exact no1), E.neg c1 (by rw [decide_eq_true c2]; exact no2)⟩
  by_cases c3 : k > n
  · refine ⟨(0, true), E.neg c1 (E.succ (E.neg (by simp; omega) (E.pos c3 (Ev.now _)))), E.neg c1 (E.succ (E.neg (by simp; omega) (E.pos c3 (Ev.now _))))⟩
  obtain ⟨N, rfl⟩ := Int.eq_ofNat_of_zero_le (show 0 ≤ n by omega)
  obtain ⟨K, rfl⟩ := Int.eq_ofNat_of_zero_le (show 0 ≤ k by omega)
  have key : ∀ Q : Nat, 2 * Q ≤ N → Ev (fun j => num_Comb.l0 j (N : Int) 1 (Q : Int) 0) (cres N Q) ∧ Ev (fun j => octavoref05_Comb.l0 j (N : Int) (Q : Int) 1 1) (cres N Q) := fun Q hQ => by
    have a := Comb_l (n := N) (k := Q) (by omega) hQ Q 0 (by omega) (by rw [ch_zero]; omega)
    have b := rComb_l (n := N) (k := Q) (by omega) hQ Q 0 (by omega) (by rw [ch_zero]; omega)
    rw [ch_zero] at a b
    exact ⟨a, b⟩
  by_cases c4 : K ≤ N - K
  · obtain ⟨a, b⟩ := key K (by omega)
    refine ⟨cres N K, E.neg c1 (E.succ (E.neg c3 ?_)), E.neg c1 (E.succ (E.neg c3 ?_))⟩
    · rw [E.w64 (x := (N : Int) - K) (by omega) (by omega), show mn (K : Int) ((N : Int) - K) = (K : Int) by unfold mn; split <;> omega]
      exact a
    · rw [E.w64 (x := (N : Int) - K) (by omega) (by omega)]
      exact E.neg (by omega) (E.succ b)
  · obtain ⟨a, b⟩ := key (N - K) (by omega)
    rw [show ((N - K : Nat) : Int) = (N : Int) - K by omega] at a b
    refine ⟨cres N (N - K), E.neg c1 (E.succ (E.neg c3 ?_)), E.neg c1 (E.succ (E.neg c3 ?_))⟩
    · rw [E.w64 (x := (N : Int) - K) (by omega) (by omega), show mn (K : Int) ((N : Int) - K) = (N : Int) - K by unfold mn; split <;> omega]
      exact a
    · rw [E.w64 (x := (N : Int) - K) (by omega) (by omega)]
      exact E.pos (by omega) (E.succ b)
end Go.Proofs.YtficjmgofbdohaaDoor.Nm
