/- What the number of a text comes to, in the program and in the document's answer. -/
import Derived.Test.YtdbahgjfbleocaaDoorNumE
import Derived.Test.YtdbahgjfbleocaaDoorY
import Derived.Laws.Strings
import Derived.Test.YtdbahgjfbleocaaDoorPx0
import Derived.Test.YtdbahgjfbleocaaDoorPx2
import Derived.Test.YtdbahgjfbleocaaDoorPx3
namespace Go.Proofs.YtdbahgjfbleocaaDoor.Nm
open Go.RowKit Go.Proofs.YtdbahgjfbleocaaDoor.P Go.Proofs.YtdbahgjfbleocaaDoorW.PrintWords Go.Proofs.YtdbahgjfbleocaaDoorW.PrintLast
set_option linter.unusedVariables false
set_option linter.unusedSimpArgs false

/-- are all bytes digits? -/
def dgs : List UInt8 → Bool
  | [] => true
  | c :: l => decide (48 ≤ (c.toNat : Int) ∧ (c.toNat : Int) ≤ 57) && dgs l
/-- the number of digits, from n on -/
def val : List UInt8 → Int → Int
  | [], n => n
  | c :: l, n => val l (10 * n + ((c.toNat : Int) - 48))
theorem val_append : ∀ (a b : List UInt8) (n : Int), val (a ++ b) n = val b (val a n) := by
  intro a
  induction a with
  | nil => intro b n; rfl
  | cons c a ih => intro b n; exact ih b _
theorem dgs_append : ∀ (a b : List UInt8), dgs (a ++ b) = (dgs a && dgs b) := by
  intro a
  induction a with
  | nil => intro b; rfl
  | cons c a ih => intro b; simp only [List.cons_append, dgs, ih, Bool.and_assoc]
theorem pow_pos' (j : Nat) : (1 : Int) ≤ 10 ^ j := by
  have := Nat.pow_pos (n := j) (show 0 < 10 by omega)
  have e : ((10 ^ j : Nat) : Int) = (10 : Int) ^ j := by simp
  omega
theorem pow_le' {i j : Nat} (h : i ≤ j) : (10 : Int) ^ i ≤ 10 ^ j := by
  have := Nat.pow_le_pow_right (show 0 < 10 by omega) h
  have e : ((10 ^ j : Nat) : Int) = (10 : Int) ^ j := by simp
  have e' : ((10 ^ i : Nat) : Int) = (10 : Int) ^ i := by simp
  omega
theorem val_bd : ∀ (l : List UInt8) (n : Int) (j : Nat), dgs l = true → 0 ≤ n → n < 10 ^ j → 0 ≤ val l n ∧ val l n < 10 ^ (j + l.length) := by
  intro l
  induction l with
  | nil => intro n j _ h k; exact ⟨h, k⟩
  | cons c l ih =>
    intro n j d h k
    simp only [dgs, Bool.and_eq_true, decide_eq_true_eq] at d
    have := ih (10 * n + ((c.toNat : Int) - 48)) (j + 1) d.2 (by omega) (by rw [Int.pow_succ]; omega)
    rw [show j + 1 + l.length = j + (c :: l).length by simp only [List.length_cons]; omega] at this
    exact this
theorem p15 : (10 : Int) ^ 15 = 1000000000000000 := by decide
theorem cntf_is : ∀ (l : List UInt8) (n : Int) (j : Nat), 0 ≤ n → n < 10 ^ j → j + l.length ≤ 15 → dgs l = true → X.cntf l n = some (val l n) := by
  intro l
  induction l with
  | nil => intro n j _ _ _ _; rfl
  | cons c l ih =>
    intro n j h k hl d
    simp only [dgs, Bool.and_eq_true, decide_eq_true_eq] at d
    simp only [List.length_cons] at hl
    have b : 10 * n + ((c.toNat : Int) - 48) < 10 ^ (j + 1) := by rw [Int.pow_succ]; omega
    have b2 := pow_le' (show j + 1 ≤ 15 by omega)
    rw [p15] at b2
    show (if (c.toNat : Int) < 48 ∨ (c.toNat : Int) > 57 then none else X.cntf l _) = _
    rw [if_neg (by omega), if_neg (by omega)]
    exact ih _ (j + 1) (by omega) b (by omega) d.2
theorem cntf_no : ∀ (l : List UInt8) (n : Int), dgs l = false → X.cntf l n = none := by
  intro l
  induction l with
  | nil => intro n h; cases h
  | cons c l ih =>
    intro n h
    show (if (c.toNat : Int) < 48 ∨ (c.toNat : Int) > 57 then none else X.cntf l _) = _
    by_cases z : (c.toNat : Int) < 48 ∨ (c.toNat : Int) > 57
    · rw [if_pos z]
    · rw [if_neg z]
      apply ih
      simp only [dgs] at h
      rw [decide_eq_true (show 48 ≤ (c.toNat : Int) ∧ (c.toNat : Int) ≤ 57 by omega), Bool.true_and] at h
      exact h
theorem cntf_some : ∀ (l : List UInt8) (n : Int), dgs l = true → ∃ m, X.cntf l n = some m := by
  intro l
  induction l with
  | nil => intro n _; exact ⟨n, rfl⟩
  | cons c l ih =>
    intro n h
    simp only [dgs, Bool.and_eq_true, decide_eq_true_eq] at h
    show ∃ m, (if (c.toNat : Int) < 48 ∨ (c.toNat : Int) > 57 then none else X.cntf l _) = some m
    rw [if_neg (by omega)]
    exact ih _ h.2

/-- so many digits, from least to most? -/
def okd (s : ByteArray) (a b : Int) : Bool := dgs s.data.toList && (decide (a ≤ (s.size : Int)) && decide ((s.size : Int) ≤ b))
theorem sz (s : ByteArray) : s.data.toList.length = s.size := by rw [Array.length_toList]; rfl
theorem count_ok {s : ByteArray} {a b : Int} (hb : b ≤ 15) (h : okd s a b = true) : num_count.f s a b = some (val s.data.toList 0, true) := by
  unfold okd at h
  simp only [Bool.and_eq_true, decide_eq_true_eq] at h
  unfold num_count.f
  rw [cntf_is s.data.toList 0 0 (by omega) (by decide) (by rw [sz]; omega) h.1]
  simp only
  rw [decide_eq_true h.2.1, decide_eq_true h.2.2]
  rfl
theorem count_no {s : ByteArray} {a b : Int} (h : okd s a b = false) : ∃ n, num_count.f s a b = some (n, false) := by
  unfold num_count.f
  cases d : dgs s.data.toList with
  | false => rw [cntf_no _ _ d]; exact ⟨0, rfl⟩
  | true =>
    obtain ⟨m, hm⟩ := cntf_some _ 0 d
    rw [hm]
    unfold okd at h
    rw [d, Bool.true_and] at h
    exact ⟨m, by simp only [h]⟩
theorem bt_get {s : ByteArray} {i : Nat} (h : i < s.size) : bt s (i : Int) = ((s[i]'h).toNat : Int) := (bt_at s i h).symm

def sg (neg : Bool) (n : Int) : Int × Bool := out (if neg = true then -n else n)
/-- the number of a text's parts -/
def fin (neg : Bool) (W R : ByteArray) (point : Bool) : Int × Bool :=
  if okd W 1 12 = true ∧ (point = true → okd R 1 4 = true) then sg neg (val W.data.toList 0 * 10000 + val R.data.toList 0 * 10 ^ (4 - R.size)) else (0, false)

theorem Parse_end {neg : Bool} {n m x : Int} (hn : 0 ≤ n) (kn : n < 1000000000000) : ∀ (r i : Nat), (i : Int) + r = x → x ≤ 4 → 0 ≤ m → m * 10 ^ r < 10000 → Ev (fun k => num_Parse.l0 k neg n m x i) (sg neg (n * 10000 + m * 10 ^ r)) := by
  intro r
  induction r generalizing m with
  | zero =>
    intro i e hx hm km
    rw [Int.pow_zero, Int.mul_one] at km ⊢
    refine E.succ (E.neg (by omega) ?_)
    rw [E.w64 (x := n * 10000) (by omega) (by omega), E.w64 (x := n * 10000 + m) (by omega) (by omega), E.w64 (x := -(n * 10000 + m)) (by omega) (by omega)]
    unfold sg
    refine E.ite (fun c => ?_) (fun c => ?_)
    · rw [if_pos c, told_is]; exact Ev.now _
    · rw [if_neg c, told_is]; exact Ev.now _
  | succ r ih =>
    intro i e hx hm km
    have pe : m * 10 ^ (r + 1) = m * 10 * 10 ^ r := by rw [Int.pow_succ, Int.mul_comm (10 ^ r) 10, Int.mul_assoc]
    rw [pe] at km ⊢
    have pp := pow_pos' r
    have mb : m * 10 ≤ m * 10 * 10 ^ r := by
      have := Int.mul_le_mul_of_nonneg_left pp (show 0 ≤ m * 10 by omega)
      omega
    refine E.succ (E.pos (by omega) ?_)
    rw [E.w64 (x := m * 10) (by omega) (by omega), E.w64 (x := (i : Int) + 1) (by omega) (by omega), show (i : Int) + 1 = ((i + 1 : Nat) : Int) by omega]
    exact ih (i + 1) (by omega) hx (by omega) km

end Go.Proofs.YtdbahgjfbleocaaDoor.Nm
