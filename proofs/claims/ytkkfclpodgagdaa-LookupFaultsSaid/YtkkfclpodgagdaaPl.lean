/- What the functions come to, in plain words. -/
import Derived.Test.YtkkfclpodgagdaaPx0
import Derived.Test.YtkkfclpodgagdaaX
import Derived.Test.YtkkfclpodgagdaaPx1
import Derived.Lib.Mul64
import Derived.Laws.Bits64
import Derived.Test.YtkkfclpodgagdaaY
import Derived.Laws.Strings
import Derived.Test.YtkkfclpodgagdaaPx2
namespace Go.Proofs.Ytkkfclpodgagdaa.E
open Go.RowKit Go.Proofs.YtkkfclpodgagdaaW.PrintWords
set_option linter.unusedVariables false
set_option linter.unusedSimpArgs false
theorem pos {α : Type} {c : Prop} [Decidable c] {g f : Nat → Option α} {r : α} (h : c) (k : Ev g r) : Ev (fun n => if c then g n else f n) r := Ev.congr (fun _ => if_pos h) k
theorem neg {α : Type} {c : Prop} [Decidable c] {g f : Nat → Option α} {r : α} (h : ¬ c) (k : Ev f r) : Ev (fun n => if c then g n else f n) r := Ev.congr (fun _ => if_neg h) k
theorem ite {α : Type} {c : Prop} [Decidable c] {g f : Nat → Option α} {r : α} (h : c → Ev g r) (k : ¬ c → Ev f r) : Ev (fun n => if c then g n else f n) r := by
 by_cases e : c
 ·exact pos e (h e)
 ·exact neg e (k e)
theorem now {α : Type} {r r' : α} (h : r = r') : Ev (fun _ => some r) r' := h ▸ Ev.now r
theorem bindn {α β : Type} {o : Option α} {f : Nat → α → Option β} {a : α} {r : β} (h : o = some a) (k : Ev (fun n => f n a) r) : Ev (fun n => o.bind (f n)) r := by
 subst h; exact k
theorem is {α : Type} {g : Nat → Option α} {r r' : α} (h : Ev g r) (e : r = r') : Ev g r' := e ▸ h
theorem succ {α : Type} {g : Nat → Option α} {r : α} (k : Ev (fun n => g (n + 1)) r) : Ev g r := Ev.step (fun _ => rfl) k
theorem w64 {x : Int} (h : -9223372036854775808 ≤ x) (k : x ≤ 9223372036854775807) : wrap64 x = x := by
 unfold wrap64
 omega
end Go.Proofs.Ytkkfclpodgagdaa.E
namespace Go.Proofs.Ytkkfclpodgagdaa.Nm
open Go.RowKit Go.Proofs.Ytkkfclpodgagdaa.P Go.Proofs.YtkkfclpodgagdaaW.PrintWords Go.Proofs.YtkkfclpodgagdaaW.PrintLast
set_option linter.unusedVariables false
set_option linter.unusedSimpArgs false
abbrev good (n : Int) : Prop := -100000000000 ≤ n ∧ n ≤ 100000000000
theorem Good_is (n : Int) : num_Good.f n = some (decide (good n)) := by
 unfold num_Good.f good
 split <;> simp <;> omega
def out (n : Int) : Int × Bool := if good n then (n, true) else (0, false)
theorem told_is (n : Int) : num_told.f n = some (out n) := by
 unfold num_told.f out
 rw [Good_is]
 by_cases c : good n <;> simp [c]
end Go.Proofs.Ytkkfclpodgagdaa.Nm
namespace Go.Proofs.Ytkkfclpodgagdaa.Nm
open Go.RowKit Go.Proofs.Ytkkfclpodgagdaa.P Go.Proofs.YtkkfclpodgagdaaW.PrintWords Go.Proofs.YtkkfclpodgagdaaW.PrintLast
set_option linter.unusedVariables false
set_option linter.unusedSimpArgs false
def ab (n : Int) : Int := if n < 0 then -n else n
def sgn (u a b : Int) : Int × Bool := if u > 100000000000 then (0, false) else if ((decide (a < 0)) != (decide (b < 0))) = true then (-u, true) else (u, true)
def mul (a b : Int) : Int × Bool := if good a ∧ good b then sgn ((ab a * ab b + 5000) / 10000) a b else (0, false)
end Go.Proofs.Ytkkfclpodgagdaa.Nm
namespace Go.Proofs.Ytkkfclpodgagdaa.Nm
open Go.RowKit Go.Proofs.Ytkkfclpodgagdaa.P Go.Proofs.YtkkfclpodgagdaaW.PrintWords Go.Proofs.YtkkfclpodgagdaaW.PrintLast
set_option linter.unusedVariables false
set_option linter.unusedSimpArgs false
def pw (a : Int) : Nat → Int → Int × Bool
 | 0, p => (p, true)
 | n + 1, p => if (mul p a).2 = true then pw a n (mul p a).1 else (0, false)
end Go.Proofs.Ytkkfclpodgagdaa.Nm
namespace Go.Proofs.Ytkkfclpodgagdaa.Nm
open Go.RowKit Go.Proofs.Ytkkfclpodgagdaa.P Go.Proofs.YtkkfclpodgagdaaW.PrintWords Go.Proofs.YtkkfclpodgagdaaW.PrintLast
set_option linter.unusedVariables false
set_option linter.unusedSimpArgs false
def dgs : List UInt8 → Bool
 | [] => true
 | c :: l => decide (48 ≤ (c.toNat : Int) ∧ (c.toNat : Int) ≤ 57) && dgs l
def val : List UInt8 → Int → Int
 | [], n => n
 | c :: l, n => val l (10 * n + ((c.toNat : Int) - 48))
theorem pow_pos' (j : Nat) : (1 : Int) ≤ 10 ^ j := by
 have := Nat.pow_pos (n := j) (show 0 < 10 by omega)
 have e : ((10 ^ j : Nat) : Int) = (10 : Int) ^ j := by simp
 omega
theorem pow_le' {i j : Nat} (h : i ≤ j) : (10 : Int) ^ i ≤ 10 ^ j := by
 have := Nat.pow_le_pow_right (show 0 < 10 by omega) h
 have e : ((10 ^ j : Nat) : Int) = (10 : Int) ^ j := by simp
 have e' : ((10 ^ i : Nat) : Int) = (10 : Int) ^ i := by simp
 omega
theorem val_bd : ∀ (l : List UInt8) (n : Int) (j : Nat), dgs l = true → 0 ≤ n → n < 10 ^ j → 0 ≤ val l n ∧ val l n < 10 ^ (j + l.length) := by
 intro l
 induction l with
 | nil => intro n j _ h k; exact ⟨h, k⟩
 | cons c l ih =>
  intro n j d h k
  simp only [dgs, Bool.and_eq_true, decide_eq_true_eq] at d
  have := ih (10 * n + ((c.toNat : Int) - 48)) (j + 1) d.2 (by omega) (by rw [Int.pow_succ]; omega)
  rw [show j + 1 + l.length = j + (c :: l).length by simp only [List.length_cons]; omega] at this
  exact this
theorem p15 : (10 : Int) ^ 15 = 1000000000000000 := by decide
theorem cntf_is : ∀ (l : List UInt8) (n : Int) (j : Nat), 0 ≤ n → n < 10 ^ j → j + l.length ≤ 15 → dgs l = true → X.cntf l n = some (val l n) := by
 intro l
 induction l with
 | nil => intro n j _ _ _ _; rfl
 | cons c l ih =>
  intro n j h k hl d
  simp only [dgs, Bool.and_eq_true, decide_eq_true_eq] at d
  simp only [List.length_cons] at hl
  have b : 10 * n + ((c.toNat : Int) - 48) < 10 ^ (j + 1) := by rw [Int.pow_succ]; omega
  have b2 := pow_le' (show j + 1 ≤ 15 by omega)
  rw [p15] at b2
  show (if (c.toNat : Int) < 48 ∨ (c.toNat : Int) > 57 then none else X.cntf l _) = _
  rw [if_neg (by omega), if_neg (by omega)]
  exact ih _ (j + 1) (by omega) b (by omega) d.2
theorem cntf_no : ∀ (l : List UInt8) (n : Int), dgs l = false → X.cntf l n = none := by
 intro l
 induction l with
 | nil => intro n h; cases h
 | cons c l ih =>
  intro n h
  show (if (c.toNat : Int) < 48 ∨ (c.toNat : Int) > 57 then none else X.cntf l _) = _
  by_cases z : (c.toNat : Int) < 48 ∨ (c.toNat : Int) > 57
  ·rw [if_pos z]
  ·rw [if_neg z]
   apply ih
   simp only [dgs] at h
   rw [decide_eq_true (show 48 ≤ (c.toNat : Int) ∧ (c.toNat : Int) ≤ 57 by omega), Bool.true_and] at h
   exact h
theorem cntf_some : ∀ (l : List UInt8) (n : Int), dgs l = true → ∃ m, X.cntf l n = some m := by
 intro l
 induction l with
 | nil => intro n _; exact ⟨n, rfl⟩
 | cons c l ih =>
  intro n h
  simp only [dgs, Bool.and_eq_true, decide_eq_true_eq] at h
  show ∃ m, (if (c.toNat : Int) < 48 ∨ (c.toNat : Int) > 57 then none else X.cntf l _) = some m
  rw [if_neg (by omega)]
  exact ih _ h.2
def okd (s : ByteArray) (a b : Int) : Bool := dgs s.data.toList && (decide (a ≤ (s.size : Int)) && decide ((s.size : Int) ≤ b))
theorem sz (s : ByteArray) : s.data.toList.length = s.size := by rw [Array.length_toList]; rfl
theorem count_ok {s : ByteArray} {a b : Int} (hb : b ≤ 15) (h : okd s a b = true) : num_count.f s a b = some (val s.data.toList 0, true) := by
 unfold okd at h
 simp only [Bool.and_eq_true, decide_eq_true_eq] at h
 unfold num_count.f
 rw [cntf_is s.data.toList 0 0 (by omega) (by decide) (by rw [sz]; omega) h.1]
 simp only
 rw [decide_eq_true h.2.1, decide_eq_true h.2.2]
 rfl
theorem count_no {s : ByteArray} {a b : Int} (h : okd s a b = false) : ∃ n, num_count.f s a b = some (n, false) := by
 unfold num_count.f
 cases d : dgs s.data.toList with
 | false => rw [cntf_no _ _ d]; exact ⟨0, rfl⟩
 | true =>
  obtain ⟨m, hm⟩ := cntf_some _ 0 d
  rw [hm]
  unfold okd at h
  rw [d, Bool.true_and] at h
  exact ⟨m, by simp only [h]⟩
theorem bt_get {s : ByteArray} {i : Nat} (h : i < s.size) : bt s (i : Int) = ((s[i]'h).toNat : Int) := (bt_at s i h).symm
def sg (neg : Bool) (n : Int) : Int × Bool := out (if neg = true then -n else n)
def fin (neg : Bool) (W R : ByteArray) (point : Bool) : Int × Bool :=
 if okd W 1 12 = true ∧ (point = true → okd R 1 4 = true) then sg neg (val W.data.toList 0 * 10000 + val R.data.toList 0 * 10 ^ (4 - R.size)) else (0, false)
theorem Parse_end {neg : Bool} {n m x : Int} (hn : 0 ≤ n) (kn : n < 1000000000000) : ∀ (r i : Nat), (i : Int) + r = x → x ≤ 4 → 0 ≤ m → m * 10 ^ r < 10000 → Ev (fun k => num_Parse.l0 k neg n m x i) (sg neg (n * 10000 + m * 10 ^ r)) := by
 intro r
 induction r generalizing m with
 | zero =>
  intro i e hx hm km
  rw [Int.pow_zero, Int.mul_one] at km ⊢
  refine E.succ (E.neg (by omega) ?_)
  rw [E.w64 (x := n * 10000) (by omega) (by omega), E.w64 (x := n * 10000 + m) (by omega) (by omega), E.w64 (x := -(n * 10000 + m)) (by omega) (by omega)]
  unfold sg
  refine E.ite (fun c => ?_) (fun c => ?_)
  ·rw [if_pos c, told_is]; exact Ev.now _
  ·rw [if_neg c, told_is]; exact Ev.now _
 | succ r ih =>
  intro i e hx hm km
  have pe : m * 10 ^ (r + 1) = m * 10 * 10 ^ r := by rw [Int.pow_succ, Int.mul_comm (10 ^ r) 10, Int.mul_assoc]
  rw [pe] at km ⊢
  have pp := pow_pos' r
  have mb : m * 10 ≤ m * 10 * 10 ^ r := by
   have := Int.mul_le_mul_of_nonneg_left pp (show 0 ≤ m * 10 by omega)
   omega
  refine E.succ (E.pos (by omega) ?_)
  rw [E.w64 (x := m * 10) (by omega) (by omega), E.w64 (x := (i : Int) + 1) (by omega) (by omega), show (i : Int) + 1 = ((i + 1 : Nat) : Int) by omega]
  exact ih (i + 1) (by omega) hx (by omega) km
end Go.Proofs.Ytkkfclpodgagdaa.Nm
namespace Go.Proofs.Ytkkfclpodgagdaa.Nm
open Go.RowKit Go.Proofs.Ytkkfclpodgagdaa.P Go.Proofs.YtkkfclpodgagdaaW.PrintWords Go.Proofs.YtkkfclpodgagdaaW.PrintLast
set_option linter.unusedVariables false
set_option linter.unusedSimpArgs false
theorem idx_bd : ∀ (l : List UInt8) (c : UInt8), Lib.indexByte l c = -1 ∨ (0 ≤ Lib.indexByte l c ∧ Lib.indexByte l c < l.length) := by
 intro l c
 induction l with
 | nil => exact .inl rfl
 | cons b l ih =>
  show (if b == c then (0 : Int) else if Lib.indexByte l c == -1 then -1 else Lib.indexByte l c + 1) = -1 ∨ (0 ≤ (if b == c then (0 : Int) else if Lib.indexByte l c == -1 then -1 else Lib.indexByte l c + 1) ∧ (if b == c then (0 : Int) else if Lib.indexByte l c == -1 then -1 else Lib.indexByte l c + 1) < ((b :: l).length : Int))
  simp only [List.length_cons, beq_iff_eq]
  by_cases h : b = c
  ·rw [if_pos h]; omega
  ·rw [if_neg h]
   by_cases h2 : Lib.indexByte l c = -1
   ·rw [if_pos h2]; exact .inl rfl
   ·rw [if_neg h2]; omega
def ng (s : ByteArray) : Bool := decide (0 < s.size ∧ bt s 0 = 45)
def body (s : ByteArray) : ByteArray := if ng s = true then s.extract 1 s.size else s
def mid (t : ByteArray) : Int := Lib.indexByte t.data.toList 46
def prs (s : ByteArray) : Int × Bool :=
 if 0 ≤ mid (body s) then fin (ng s) ((body s).extract 0 (mid (body s)).toNat) ((body s).extract (mid (body s) + 1).toNat (body s).size) true else fin (ng s) (body s) (⟨#[]⟩ : ByteArray) false
theorem u8_eq {a : UInt8} {n : Nat} (hn : n < 256) : (a.toNat : Int) = n ↔ a = UInt8.ofNat n := by
 constructor
 ·intro h
  apply UInt8.toNat_inj.1
  rw [UInt8.toNat_ofNat']
  omega
 ·intro h
  rw [h, UInt8.toNat_ofNat']
  omega
theorem cutp_is {s : ByteArray} (hs : s.size ≤ 140737488351232) : strings_CutPrefix.f s (⟨#[45]⟩ : ByteArray) = some (body s, ng s) := by
 have s1 : ((⟨#[45]⟩ : ByteArray).size : Int) = 1 := rfl
 have l1 : (⟨#[45]⟩ : ByteArray).toList = [45] := by decide +kernel
 have hp : stringslite_HasPrefix.f s (⟨#[45]⟩ : ByteArray) = some (ng s) := by
  unfold stringslite_HasPrefix.f ng
  rw [s1, l1]
  by_cases c : (s.size : Int) ≥ 1
  ·rw [if_pos c, if_pos (by omega), if_pos c]
   have h0 : 0 < s.size := by omega
   have e : (s.extract 0 ((1 : Int)).toNat).toList = [s[0]'h0] := by
    rw [ByteArray.toList_eq, ByteArray.data_extract, Array.toList_extract, show ((1 : Int)).toNat = 1 from rfl]
    have := X.drop_get s 0 h0
    rw [List.drop_zero] at this
    rw [this]
    rfl
   have b0 : bt s 0 = ((s[0]'h0).toNat : Int) := bt_get (i := 0) h0
   rw [e, b0]
   congr 1
   by_cases z : s[0]'h0 = 45
   ·rw [z]; simp [h0]
   ·have : ¬ (((s[0]'h0).toNat : Int) = 45) := fun h => z ((u8_eq (n := 45) (by omega)).1 h)
    rw [decide_eq_false (fun h => this h.2)]
    simp [z]
  ·rw [if_neg c, decide_eq_false (by omega)]
 unfold strings_CutPrefix.f stringslite_CutPrefix.f
 rw [hp]
 simp only [Option.bind_some]
 unfold body
 by_cases c : ng s = true
 ·rw [if_pos c, if_pos c, s1, if_pos (by omega), if_pos (by have := of_decide_eq_true c; omega), c]
  rfl
 ·rw [if_neg c, if_neg c, show ng s = false by simpa using c]
  rfl
theorem body_size {s : ByteArray} (hs : s.size ≤ 140737488351232) : (body s).size ≤ 140737488351232 := by
 unfold body
 split
 ·rw [ByteArray.size_extract]; omega
 ·exact hs
theorem cut_is {t : ByteArray} (ht : t.size ≤ 140737488351232) : Ev (fun k => strings_Cut.f k t (⟨#[46]⟩ : ByteArray)) (if 0 ≤ mid t then (t.extract 0 (mid t).toNat, t.extract (mid t + 1).toNat t.size, true) else (t, (⟨#[]⟩ : ByteArray), false)) := by
 have s1 : ((⟨#[46]⟩ : ByteArray).size : Int) = 1 := rfl
 have l1 : (⟨#[46]⟩ : ByteArray).toList = [46] := by decide +kernel
 have b1 : bt (⟨#[46]⟩ : ByteArray) 0 = 46 := by decide +kernel
 have ix : Ev (fun k => stringslite_Index.f k t (⟨#[46]⟩ : ByteArray)) (mid t) := by
  refine E.neg (by rw [s1]; omega) ?_
  rw [s1, l1]
  cases h : (([46] : List UInt8) == t.toList) with
  | true =>
   refine E.succ ?_
   simp only [stringslite_Index.j0]
   refine E.pos trivial (E.now ?_)
   have : t.data.toList = [46] := by rw [← ByteArray.toList_eq]; exact (beq_iff_eq.1 h).symm
   unfold mid
   rw [this]
   rfl
  | false =>
   refine E.succ ?_
   simp only [stringslite_Index.j0, b1]
   exact E.neg (by simp) (E.pos trivial (E.pos (by rw [s1]; omega) (E.bindn (a := mid t) rfl (Ev.now _))))
 have lt := idx_bd t.data.toList 46
 rw [sz] at lt
 unfold strings_Cut.f stringslite_Cut.f
 refine Ev.bind (a := (if 0 ≤ mid t then (t.extract 0 (mid t).toNat, t.extract (mid t + 1).toNat t.size, true) else (t, (⟨#[]⟩ : ByteArray), false))) (Ev.bind ix ?_) (Ev.now _)
 rw [s1]
 have lt' : mid t = -1 ∨ (0 ≤ mid t ∧ mid t < t.size) := lt
 refine E.ite (fun c => ?_) (fun c => ?_)
 ·rw [E.w64 (x := mid t + 1) (by omega) (by omega)]
  refine E.is ?_ (if_pos c).symm
  exact E.pos c (E.pos (by omega) (E.pos (by omega) (E.pos (by omega) (Ev.now _))))
 ·refine E.is ?_ (if_neg c).symm
  exact Ev.now _
theorem okd_sz {s : ByteArray} {a b : Int} (h : okd s a b = true) : dgs s.data.toList = true ∧ a ≤ s.size ∧ (s.size : Int) ≤ b := by
 unfold okd at h
 simpa using h
theorem val0 {s : ByteArray} (d : dgs s.data.toList = true) : 0 ≤ val s.data.toList 0 ∧ val s.data.toList 0 < 10 ^ s.size := by
 have := val_bd s.data.toList 0 0 d (by omega) (by decide)
 rw [Nat.zero_add, sz] at this
 exact this
theorem Parse_tail {neg : Bool} {W R : ByteArray} {n : Int} (dW : dgs W.data.toList = true) (hW : W.size ≤ 12) (dR : dgs R.data.toList = true) (hR : R.size ≤ 4) (hn : n = val W.data.toList 0) : Ev (fun k => num_Parse.j0 k neg R n (val R.data.toList 0) false) (sg neg (n * 10000 + val R.data.toList 0 * 10 ^ (4 - R.size))) := by
 have vW := val0 dW
 have vR := val0 dR
 have p12 : (10 : Int) ^ 12 = 1000000000000 := by decide
 have pw := pow_le' hW
 rw [p12] at pw
 refine E.succ ?_
 simp only [num_Parse.j0]
 rw [E.w64 (x := 4 - (R.size : Int)) (by omega) (by omega)]
 refine E.neg (by simp) (Parse_end (by omega) (by omega) (4 - R.size) 0 (by omega) (by omega) vR.1 ?_)
 have e : (10 : Int) ^ R.size * 10 ^ (4 - R.size) = 10000 := by
  rw [← Int.pow_add, show R.size + (4 - R.size) = 4 by omega]; rfl
 have := Int.mul_lt_mul_of_pos_right vR.2 (show (0 : Int) < 10 ^ (4 - R.size) by have := pow_pos' (4 - R.size); omega)
 omega
theorem Parse_is {s : ByteArray} (hs : s.size ≤ 140737488351232) : Ev (fun k => num_Parse.f k s) (prs s) := by
 have no : ∀ (b : Bool) (R : ByteArray) (x y : Int), Ev (fun k => num_Parse.j0 k b R x y true) (0, false) := fun b R x y => by
  refine E.succ ?_
  simp only [num_Parse.j0]
  exact E.pos trivial (Ev.now _)
 have bs := body_size hs
 refine E.bindn (cutp_is hs) (Ev.bind (cut_is bs) ?_)
 unfold prs
 generalize body s = t at *
 generalize ng s = b
 have key : ∀ (W R : ByteArray) (point : Bool), (point = false → R = (⟨#[]⟩ : ByteArray)) → Ev (fun k => (num_count.f W 1 12).bind fun bt115 => (num_count.f R 1 4).bind fun bt117 => if bt115.2 = true then (if point = true then num_Parse.j0 k b R bt115.1 bt117.1 (!bt117.2) else num_Parse.j0 k b R bt115.1 bt117.1 false) else num_Parse.j0 k b R bt115.1 bt117.1 true) (fin b W R point) := by
  intro W R point hp
  unfold fin
  cases hW : okd W 1 12 with
  | false =>
   obtain ⟨n, e⟩ := count_no hW
   rw [if_neg (fun h => by cases h.1)]
   cases hR : okd R 1 4 with
   | false =>
    obtain ⟨m, e2⟩ := count_no hR
    exact E.bindn e (E.bindn e2 (E.neg (by simp) (no _ _ _ _)))
   | true => exact E.bindn e (E.bindn (count_ok (by omega) hR) (E.neg (by simp) (no _ _ _ _)))
  | true =>
   have zW := okd_sz hW
   refine E.bindn (count_ok (by omega) hW) ?_
   cases point with
   | false =>
    have hR := hp rfl
    subst hR
    rw [if_pos ⟨rfl, fun h => by cases h⟩]
    refine E.bindn (a := (0, false)) rfl (E.pos (by rfl) (E.neg (by simp) ?_))
    exact Parse_tail (R := (⟨#[]⟩ : ByteArray)) zW.1 (by omega) rfl (by decide) rfl
   | true =>
    cases hR : okd R 1 4 with
    | false =>
     obtain ⟨m, e2⟩ := count_no hR
     rw [if_neg (fun h => by have := h.2 rfl; cases this)]
     refine E.bindn e2 (E.pos (by rfl) (E.pos (by rfl) ?_))
     exact no _ _ _ _
    | true =>
     have zR := okd_sz hR
     rw [if_pos ⟨rfl, fun _ => rfl⟩]
     refine E.bindn (count_ok (by omega) hR) (E.pos (by rfl) (E.pos (by rfl) ?_))
     exact Parse_tail zW.1 (by omega) zR.1 (by omega) rfl
 by_cases c : 0 ≤ mid t
 ·rw [if_pos c, if_pos c]
  exact key _ _ true (fun h => by cases h)
 ·rw [if_neg c, if_neg c]
  exact key _ _ false (fun _ => rfl)
end Go.Proofs.Ytkkfclpodgagdaa.Nm
namespace Go.Proofs.Ytkkfclpodgagdaa.Vl
open Go.RowKit Go.Proofs.Ytkkfclpodgagdaa.P Go.Proofs.Ytkkfclpodgagdaa.Nm Go.Proofs.YtkkfclpodgagdaaW.PrintWords Go.Proofs.YtkkfclpodgagdaaW.PrintLast
set_option linter.unusedVariables false
set_option linter.unusedSimpArgs false
def up (s : ByteArray) : ByteArray := X.mapS X.gUpper s
def lo (s : ByteArray) : ByteArray := X.mapS X.gLower s
theorem Upper_is {s : ByteArray} (h : s.size ≤ 140737488351232) : value_Upper.f s = some (up s) := if_pos (by omega)
def wrd (s : ByteArray) : Int := if (up s).toList = ([84, 82, 85, 69] : List UInt8) then 1 else if (up s).toList = ([70, 65, 76, 83, 69] : List UInt8) then 0 else -1
theorem word_is {s : ByteArray} (h : s.size ≤ 140737488351232) : value_word.f s = some (decide (wrd s = 1), decide (wrd s ≥ 0)) := by
 unfold value_word.f wrd
 rw [Upper_is h]
 simp only [Option.bind_some]
 split
 ·rfl
 ·split <;> rfl
def q (s : ByteArray) : Bool := decide (0 < s.size ∧ bt s 0 = 39)
def tnum (a b : Int) (s : ByteArray) : Int × Int :=
 if a = 0 then (0, 0) else if a = 1 then (b, 0) else if a = 3 then (if b = 0 then (0, 0) else (10000, 0)) else if a = 2 then (if (prs s).2 = true then ((prs s).1, 0) else (0, 2)) else if a = 4 then (0, b) else (0, 2)
theorem ite_same {c : Prop} [Decidable c] {α : Type} {g f : Nat → Option α} {x y : α} (h : c → Ev g x) (k : ¬ c → Ev f y) : Ev (fun n => if c then g n else f n) (if c then x else y) :=
 E.ite (fun hc => by rw [if_pos hc]; exact h hc) (fun hc => by rw [if_neg hc]; exact k hc)
def tboo (a b : Int) (s : ByteArray) : Bool × Int :=
 if a = 0 then (false, 0) else if a = 1 then ((b != 0), 0) else if a = 2 then (if wrd s ≥ 0 then (decide (wrd s = 1), 0) else (false, 2)) else if a = 3 then ((b != 0), 0) else if a = 4 then (false, b) else (false, 2)
def gdv (a b : Int) (s : ByteArray) : Prop :=
 (a = 0 ∧ b = 0 ∧ s.size = 0) ∨ (a = 1 ∧ good b ∧ s.size = 0) ∨ (a = 2 ∧ b = 0 ∧ s.size ≤ 255) ∨ (a = 3 ∧ (b = 0 ∨ b = 1) ∧ s.size = 0) ∨ (a = 4 ∧ 1 ≤ b ∧ b ≤ 8 ∧ s.size = 0)
instance (a b : Int) (s : ByteArray) : Decidable (gdv a b s) := by unfold gdv good; infer_instance
end Go.Proofs.Ytkkfclpodgagdaa.Vl
namespace Go.Proofs.Ytkkfclpodgagdaa.Vl
open Go.RowKit Go.Proofs.Ytkkfclpodgagdaa.P Go.Proofs.Ytkkfclpodgagdaa.Nm Go.Proofs.YtkkfclpodgagdaaW.PrintWords Go.Proofs.YtkkfclpodgagdaaW.PrintLast
set_option linter.unusedVariables false
set_option linter.unusedSimpArgs false
def pl (a0 a1 : Int) (a2 : ByteArray) (b0 : Int) : Int × Int × ByteArray :=
 if a0 = 0 then (if b0 = 2 then (2, 0, up (⟨#[]⟩ : ByteArray)) else if b0 = 3 then (3, 0, (⟨#[]⟩ : ByteArray)) else (1, 0, (⟨#[]⟩ : ByteArray))) else if a0 = 1 then (1, a1, (⟨#[]⟩ : ByteArray)) else if a0 = 3 then (3, a1, (⟨#[]⟩ : ByteArray)) else if a0 = 2 then (2, 0, up a2) else (4, a1, (⟨#[]⟩ : ByteArray))
theorem e0 : (⟨#[]⟩ : ByteArray).size ≤ 140737488351232 := by decide
theorem place_is {a0 a1 b0 b1 : Int} {a2 b2 : ByteArray} (ha : a2.size ≤ 140737488351232) : Ev (fun k => value_Cmp_1.f k a0 a1 a2 b0 b1 b2) (pl a0 a1 a2 b0) := by
 have j : ∀ (x a a' : Int) (s : ByteArray), s.size ≤ 140737488351232 → Ev (fun k => value_Cmp_1.j0 k x a a' s) (if x = 1 then (x, a', (⟨#[]⟩ : ByteArray)) else if x = 3 then (x, a', (⟨#[]⟩ : ByteArray)) else if x = 2 then (x, 0, up s) else (4, a', (⟨#[]⟩ : ByteArray))) := by
  intro x a a' s hs
  have j1 : ∀ (b : Bool) , Ev (fun k => value_Cmp_1.j1 k x x b a a' s) (if b = true then (x, a', (⟨#[]⟩ : ByteArray)) else if x = 2 then (x, 0, up s) else (4, a', (⟨#[]⟩ : ByteArray))) := by
   intro b
   refine E.succ ?_
   simp only [value_Cmp_1.j1]
   exact ite_same (fun _ => Ev.now _) (fun _ => ite_same (fun _ => E.bindn (Upper_is hs) (Ev.now _)) (fun _ => Ev.now _))
  refine E.succ ?_
  simp only [value_Cmp_1.j0]
  refine ite_same (fun h => ?_) (fun h => ?_)
  ·have := j1 (x == 1)
   rw [if_pos (beq_iff_eq.2 h)] at this
   exact this
  ·have := j1 (x == 3)
   simp only [beq_iff_eq] at this
   exact this
 unfold pl
 refine ite_same (fun h => ite_same (fun h2 => ?_) (fun h2 => ite_same (fun h3 => ?_) (fun h3 => ?_))) (fun h => ?_)
 ·have := j b0 0 0 (⟨#[]⟩ : ByteArray) e0
  rw [h2] at this ⊢
  exact this
 ·have := j b0 0 0 (⟨#[]⟩ : ByteArray) e0
  rw [h3] at this ⊢
  exact this
 ·exact j 1 0 0 (⟨#[]⟩ : ByteArray) e0
 ·have := j a0 a0 a1 a2 ha
  refine E.is this ?_
  repeat' split
  all_goals simp_all
def cp (x y : Int × Int × ByteArray) : Int :=
 if x.1 = y.1 then (if x.2.1 = y.2.1 then (if x.2.2.toList = y.2.2.toList then 0 else if Op.bytesLess x.2.2.toList y.2.2.toList = true then -1 else 1) else if x.2.1 < y.2.1 then -1 else 1) else if x.1 < y.1 then -1 else 1
def cmp (a0 a1 : Int) (a2 : ByteArray) (b0 b1 : Int) (b2 : ByteArray) : Int := cp (pl a0 a1 a2 b0) (pl b0 b1 b2 a0)
theorem order_is (b : Bool) : value_order.f b = some (if b = true then -1 else 1) := by
 unfold value_order.f
 split <;> rfl
theorem Cmp_is {a0 a1 b0 b1 : Int} {a2 b2 : ByteArray} (ha : a2.size ≤ 140737488351232) (hb : b2.size ≤ 140737488351232) : Ev (fun k => value_Cmp.f k a0 a1 a2 b0 b1 b2) (cmp a0 a1 a2 b0 b1 b2) := by
 refine Ev.bind (place_is ha) (Ev.bind (place_is hb) ?_)
 unfold cmp cp
 generalize pl a0 a1 a2 b0 = x
 generalize pl b0 b1 b2 a0 = y
 refine ite_same (fun _ => ite_same (fun _ => ite_same (fun _ => Ev.now _) (fun _ => E.bindn (order_is _) (Ev.now _))) (fun _ => E.bindn (order_is _) (E.now (by simp)))) (fun _ => E.bindn (order_is _) (E.now (by simp)))
end Go.Proofs.Ytkkfclpodgagdaa.Vl
