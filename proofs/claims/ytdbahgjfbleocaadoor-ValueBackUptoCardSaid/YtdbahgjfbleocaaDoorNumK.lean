/- The number of any text, in the program and in the document's answer. -/
import Derived.Test.YtdbahgjfbleocaaDoorNumI
import Derived.Test.YtdbahgjfbleocaaDoorNumJ
import Derived.Test.YtdbahgjfbleocaaDoorPx0
import Derived.Test.YtdbahgjfbleocaaDoorPx2
import Derived.Test.YtdbahgjfbleocaaDoorPx3
namespace Go.Proofs.YtdbahgjfbleocaaDoor.Nm
open Go.RowKit Go.Proofs.YtdbahgjfbleocaaDoor.P Go.Proofs.YtdbahgjfbleocaaDoorW.PrintWords Go.Proofs.YtdbahgjfbleocaaDoorW.PrintLast
set_option linter.unusedVariables false
set_option linter.unusedSimpArgs false

theorem idx_bd : ∀ (l : List UInt8) (c : UInt8), Lib.indexByte l c = -1 ∨ (0 ≤ Lib.indexByte l c ∧ Lib.indexByte l c < l.length) := by
  intro l c
  induction l with
  | nil => exact .inl rfl
  | cons b l ih =>
    show (if b == c then (0 : Int) else if Lib.indexByte l c == -1 then -1 else Lib.indexByte l c + 1) = -1 ∨ (0 ≤ (if b == c then (0 : Int) else if Lib.indexByte l c == -1 then -1 else Lib.indexByte l c + 1) ∧ (if b == c then (0 : Int) else if Lib.indexByte l c == -1 then -1 else Lib.indexByte l c + 1) < ((b :: l).length : Int))
    simp only [List.length_cons, beq_iff_eq]
    by_cases h : b = c
    · rw [if_pos h]; omega
    · rw [if_neg h]
      by_cases h2 : Lib.indexByte l c = -1
      · rw [if_pos h2]; exact .inl rfl
      · rw [if_neg h2]; omega
theorem idx_cons (b c : UInt8) (l : List UInt8) : Lib.indexByte (b :: l) c = if b = c then 0 else if Lib.indexByte l c = -1 then -1 else Lib.indexByte l c + 1 := by
  show (if b == c then (0 : Int) else if Lib.indexByte l c == -1 then -1 else Lib.indexByte l c + 1) = _
  simp only [beq_iff_eq]

/-- does a text begin with a sign? what is left then -/
def ng (s : ByteArray) : Bool := decide (0 < s.size ∧ bt s 0 = 45)
def body (s : ByteArray) : ByteArray := if ng s = true then s.extract 1 s.size else s
def mid (t : ByteArray) : Int := Lib.indexByte t.data.toList 46
/-- the number of a text -/
def prs (s : ByteArray) : Int × Bool :=
  if 0 ≤ mid (body s) then fin (ng s) ((body s).extract 0 (mid (body s)).toNat) ((body s).extract (mid (body s) + 1).toNat (body s).size) true else fin (ng s) (body s) (⟨#[]⟩ : ByteArray) false

theorem u8_eq {a : UInt8} {n : Nat} (hn : n < 256) : (a.toNat : Int) = n ↔ a = UInt8.ofNat n := by
  constructor
  · intro h
    apply UInt8.toNat_inj.1
    rw [UInt8.toNat_ofNat']
    omega
  · intro h
    rw [h, UInt8.toNat_ofNat']
    omega
theorem cutp_is {s : ByteArray} (hs : s.size ≤ 140737488351232) : strings_CutPrefix.f s (⟨#[45]⟩ : ByteArray) = some (body s, ng s) := by
  have s1 : ((⟨#[45]⟩ : ByteArray).size : Int) = 1 := rfl
  have l1 : (⟨#[45]⟩ : ByteArray).toList = [45] := by decide +kernel
  have hp : stringslite_HasPrefix.f s (⟨#[45]⟩ : ByteArray) = some (ng s) := by
    unfold stringslite_HasPrefix.f ng
    rw [s1, l1]
    by_cases c : (s.size : Int) ≥ 1
    · rw [if_pos c, if_pos (by omega), if_pos c]
      have h0 : 0 < s.size := by omega
      have e : (s.extract 0 ((1 : Int)).toNat).toList = [s[0]'h0] := by
        rw [ByteArray.toList_eq, ByteArray.data_extract, Array.toList_extract, show ((1 : Int)).toNat = 1 from rfl]
        have := X.drop_get s 0 h0
        rw [List.drop_zero] at this
        rw [this]
        rfl
      have b0 : bt s 0 = ((s[0]'h0).toNat : Int) := bt_get (i := 0) h0
      rw [e, b0]
      congr 1
      by_cases z : s[0]'h0 = 45
      · rw [z]; simp [h0]
      · have : ¬ (((s[0]'h0).toNat : Int) = 45) := fun h => z ((u8_eq (n := 45) (by omega)).1 h)
        rw [decide_eq_false (fun h => this h.2)]
        simp [z]
    · rw [if_neg c, decide_eq_false (by omega)]
  unfold strings_CutPrefix.f stringslite_CutPrefix.f
  rw [hp]
  simp only [Option.bind_some]
  unfold body
  by_cases c : ng s = true
  · rw [if_pos c, if_pos c, s1, if_pos (by omega), if_pos (by have := of_decide_eq_true c; omega), c]
    rfl
  · rw [if_neg c, if_neg c, show ng s = false by simpa using c]
    rfl
theorem body_size {s : ByteArray} (hs : s.size ≤ 140737488351232) : (body s).size ≤ 140737488351232 := by
  unfold body
  split
  · rw [ByteArray.size_extract]; omega
  · exact hs

theorem cut_is {t : ByteArray} (ht : t.size ≤ 140737488351232) : Ev (fun k => strings_Cut.f k t (⟨#[46]⟩ : ByteArray)) (if 0 ≤ mid t then (t.extract 0 (mid t).toNat, t.extract (mid t + 1).toNat t.size, true) else (t, (⟨#[]⟩ : ByteArray), false)) := by
  have s1 : ((⟨#[46]⟩ : ByteArray).size : Int) = 1 := rfl
  have l1 : (⟨#[46]⟩ : ByteArray).toList = [46] := by decide +kernel
  have b1 : bt (⟨#[46]⟩ : ByteArray) 0 = 46 := by decide +kernel
  have ix : Ev (fun k => stringslite_Index.f k t (⟨#[46]⟩ : ByteArray)) (mid t) := by
    refine E.neg (by rw [s1]; omega) ?_
    rw [s1, l1]
    cases h : (([46] : List UInt8) == t.toList) with
    | true =>
      refine E.succ ?_
      simp only [stringslite_Index.j0]
      refine E.pos trivial (E.now ?_)
      have : t.data.toList = [46] := by rw [← ByteArray.toList_eq]; exact (beq_iff_eq.1 h).symm
      unfold mid
      rw [this]
      rfl
    | false =>
      refine E.succ ?_
      simp only [stringslite_Index.j0, b1]
      exact E.neg (by simp) (E.pos trivial (E.pos (by rw [s1]; omega) (E.bindn (a := mid t) rfl (Ev.now _))))
  have lt := idx_bd t.data.toList 46
  rw [sz] at lt
  unfold strings_Cut.f stringslite_Cut.f
  refine Ev.bind (a := (if 0 ≤ mid t then (t.extract 0 (mid t).toNat, t.extract (mid t + 1).toNat t.size, true) else (t, (⟨#[]⟩ : ByteArray), false))) (Ev.bind ix ?_) (Ev.now _)
  rw [s1]
  have lt' : mid t = -1 ∨ (0 ≤ mid t ∧ mid t < t.size) := lt
  refine E.ite (fun c => ?_) (fun c => ?_)
  · rw [E.w64 (x := mid t + 1) (by omega) (by omega)]
    refine E.is ?_ (if_pos c).symm
    exact E.pos c (E.pos (by omega) (E.pos (by omega) (E.pos (by omega) (Ev.now _))))
  · refine E.is ?_ (if_neg c).symm
    exact Ev.now _

theorem okd_sz {s : ByteArray} {a b : Int} (h : okd s a b = true) : dgs s.data.toList = true ∧ a ≤ s.size ∧ (s.size : Int) ≤ b := by
  unfold okd at h
  simpa using h
theorem val0 {s : ByteArray} (d : dgs s.data.toList = true) : 0 ≤ val s.data.toList 0 ∧ val s.data.toList 0 < 10 ^ s.size := by
  have := val_bd s.data.toList 0 0 d (by omega) (by decide)
  rw [Nat.zero_add, sz] at this
  exact this

theorem Parse_tail {neg : Bool} {W R : ByteArray} {n : Int} (dW : dgs W.data.toList = true) (hW : W.size ≤ 12) (dR : dgs R.data.toList = true) (hR : R.size ≤ 4) (hn : n = val W.data.toList 0) : Ev (fun k => num_Parse.j0 k neg R n (val R.data.toList 0) false) (sg neg (n * 10000 + val R.data.toList 0 * 10 ^ (4 - R.size))) := by
  have vW := val0 dW
  have vR := val0 dR
  have p12 : (10 : Int) ^ 12 = 1000000000000 := by decide
  have pw := pow_le' hW
  rw [p12] at pw
  refine E.succ ?_
  simp only [num_Parse.j0]
  rw [E.w64 (x := 4 - (R.size : Int)) (by omega) (by omega)]
  refine E.neg (by simp) (Parse_end (by omega) (by omega) (4 - R.size) 0 (by omega) (by omega) vR.1 ?_)
  have e : (10 : Int) ^ R.size * 10 ^ (4 - R.size) = 10000 := by
    rw [← Int.pow_add, show R.size + (4 - R.size) = 4 by omega]; rfl
  have := Int.mul_lt_mul_of_pos_right vR.2 (show (0 : Int) < 10 ^ (4 - R.size) by have := pow_pos' (4 - R.size); omega)
  omega

theorem Parse_is {s : ByteArray} (hs : s.size ≤ 140737488351232) : Ev (fun k => num_Parse.f k s) (prs s) := by
  have no : ∀ (b : Bool) (R : ByteArray) (x y : Int), Ev (fun k => num_Parse.j0 k b R x y true) (0, false) := fun b R x y => by
    refine E.succ ?_
    simp only [num_Parse.j0]
    exact E.pos trivial (Ev.now _)
  have bs := body_size hs
  refine E.bindn (cutp_is hs) (Ev.bind (cut_is bs) ?_)
  unfold prs
  generalize body s = t at *
  generalize ng s = b
  have key : ∀ (W R : ByteArray) (point : Bool), (point = false → R = (⟨#[]⟩ : ByteArray)) → Ev (fun k => (num_count.f W 1 12).bind fun bt115 => (num_count.f R 1 4).bind fun bt117 => if bt115.2 = true then (if point = true then num_Parse.j0 k b R bt115.1 bt117.1 (!bt117.2) else num_Parse.j0 k b R bt115.1 bt117.1 false) else num_Parse.j0 k b R bt115.1 bt117.1 true) (fin b W R point) := by
    intro W R point hp
    unfold fin
    cases hW : okd W 1 12 with
    | false =>
      obtain ⟨n, e⟩ := count_no hW
      rw [if_neg (fun h => by cases h.1)]
      cases hR : okd R 1 4 with
      | false =>
        obtain ⟨m, e2⟩ := count_no hR
        exact E.bindn e (E.bindn e2 (E.neg (by simp) (no _ _ _ _)))
      | true => exact E.bindn e (E.bindn (count_ok (by omega) hR) (E.neg (by simp) (no _ _ _ _)))
    | true =>
      have zW := okd_sz hW
      refine E.bindn (count_ok (by omega) hW) ?_
      cases point with
      | false =>
        have hR := hp rfl
        subst hR
        rw [if_pos ⟨rfl, fun h => by cases h⟩]
        refine E.bindn (a := (0, false)) rfl (E.pos (by rfl) (E.neg (by simp) ?_))
        exact Parse_tail (R := (⟨#[]⟩ : ByteArray)) zW.1 (by omega) rfl (by decide) rfl
      | true =>
        cases hR : okd R 1 4 with
        | false =>
          obtain ⟨m, e2⟩ := count_no hR
          rw [if_neg (fun h => by have := h.2 rfl; cases this)]
          refine E.bindn e2 (E.pos (by rfl) (E.pos (by rfl) ?_))
          exact no _ _ _ _
        | true =>
          have zR := okd_sz hR
          rw [if_pos ⟨rfl, fun _ => rfl⟩]
          refine E.bindn (count_ok (by omega) hR) (E.pos (by rfl) (E.pos (by rfl) ?_))
          exact Parse_tail zW.1 (by omega) zR.1 (by omega) rfl
  by_cases c : 0 ≤ mid t
  · rw [if_pos c, if_pos c]
    exact key _ _ true (fun h => by cases h)
  · rw [if_neg c, if_neg c]
    exact key _ _ false (fun _ => rfl)

end Go.Proofs.YtdbahgjfbleocaaDoor.Nm
