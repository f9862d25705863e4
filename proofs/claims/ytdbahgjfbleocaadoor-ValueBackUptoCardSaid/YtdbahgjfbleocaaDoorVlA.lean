/- What values are turned into, in the program and in the document's answer. -/
import Derived.Test.YtdbahgjfbleocaaDoorNumK
import Derived.Test.YtdbahgjfbleocaaDoorPureNumBack
import Derived.Test.YtdbahgjfbleocaaDoorPx0
import Derived.Test.YtdbahgjfbleocaaDoorPx2
import Derived.Test.YtdbahgjfbleocaaDoorPx4
import Derived.Test.YtdbahgjfbleocaaDoorPx5
import Derived.Test.YtdbahgjfbleocaaDoorPx8
namespace Go.Proofs.YtdbahgjfbleocaaDoor.Vl
open Go.RowKit Go.Proofs.YtdbahgjfbleocaaDoor.P Go.Proofs.YtdbahgjfbleocaaDoor.Nm Go.Proofs.YtdbahgjfbleocaaDoorW.PrintWords Go.Proofs.YtdbahgjfbleocaaDoorW.PrintLast
set_option linter.unusedVariables false
set_option linter.unusedSimpArgs false

theorem beq_dec {α : Type} [BEq α] [LawfulBEq α] [DecidableEq α] (x y : α) : (x == y) = decide (x = y) := by
  rw [Bool.eq_iff_iff]
  simp

/-! ### numbers as texts -/
noncomputable def prt (n : Int) : ByteArray := if h : -9223372036854775808 ≤ n ∧ n ≤ 9223372036854775807 then Classical.choose (Print_is n h.1 h.2) else (⟨#[]⟩ : ByteArray)
theorem Prt_is {n : Int} (h : -9223372036854775808 ≤ n) (k : n ≤ 9223372036854775807) : Ev (fun j => num_Print.f j n) (prt n) ∧ Ev (fun j => octavoref05_Print.f j n) (prt n) ∧ (good n → prs (prt n) = (n, true)) := by
  have e : prt n = Classical.choose (Print_is n h k) := dif_pos ⟨h, k⟩
  obtain ⟨a, b, y, ⟨x, hx, ty⟩, hp⟩ := Classical.choose_spec (Print_is n h k)
  rw [← e] at a b hp
  exact ⟨a, b, fun g => Pure.back g hx ty hp⟩

theorem prt_sz {n : Int} (h : -9223372036854775808 ≤ n) (k : n ≤ 9223372036854775807) : (prt n).size ≤ 30 := by
  have e : prt n = Classical.choose (Print_is n h k) := dif_pos ⟨h, k⟩
  obtain ⟨a, b, y, ⟨x, hx, ty⟩, hp⟩ := Classical.choose_spec (Print_is n h k)
  rw [← e] at hp
  have p16 : (10 : Int) ^ (15 + 1) = 10000000000000000 := by decide
  obtain ⟨y', t1, t2, _⟩ := trim_l 4 x (by rw [hx, son_size]; rfl) (by omega)
  have ey := E.uniq ty t1
  subst ey
  have d := dig_len 15 (ab n / 10000) []
  have l1 : (if n < 0 then ([45] : List Int) else []).length ≤ 1 := by split <;> simp
  have l2 : (strOfNums ((if n < 0 then [45] else []) ++ dig 15 (ab n / 10000) [])).size ≤ 17 := by
    rw [son_size, List.length_append]
    simp only [List.length_nil] at d
    omega
  have l3 : x.size = 4 := by rw [hx, son_size]; rfl
  rw [hp]
  unfold dot
  split
  · omega
  · rw [ByteArray.size_append, ByteArray.size_append]
    have : (⟨#[46]⟩ : ByteArray).size = 1 := rfl
    omega

/-! ### texts as values -/
/-- the text in capital letters -/
def up (s : ByteArray) : ByteArray := X.mapS X.gUpper s
theorem Upper_is {s : ByteArray} (h : s.size ≤ 140737488351232) : value_Upper.f s = some (up s) := if_pos (by omega)
/-- 1: TRUE, 0: FALSE, -1: neither -/
def wrd (s : ByteArray) : Int := if (up s).toList = ([84, 82, 85, 69] : List UInt8) then 1 else if (up s).toList = ([70, 65, 76, 83, 69] : List UInt8) then 0 else -1
theorem wrd_or (s : ByteArray) : wrd s = 1 ∨ wrd s = 0 ∨ wrd s = -1 := by
  unfold wrd
  split
  · simp
  · split <;> simp
theorem word_is {s : ByteArray} (h : s.size ≤ 140737488351232) : value_word.f s = some (decide (wrd s = 1), decide (wrd s ≥ 0)) := by
  unfold value_word.f wrd
  rw [Upper_is h]
  simp only [Option.bind_some]
  split
  · rfl
  · split <;> rfl
/-- does a text begin with an apostrophe -/
def q (s : ByteArray) : Bool := decide (0 < s.size ∧ bt s 0 = 39)
theorem cutq_is {s : ByteArray} (hs : s.size ≤ 140737488351232) : strings_CutPrefix.f s (⟨#[39]⟩ : ByteArray) = some (if q s = true then s.extract 1 s.size else s, q s) := by
  have s1 : ((⟨#[39]⟩ : ByteArray).size : Int) = 1 := rfl
  have l1 : (⟨#[39]⟩ : ByteArray).toList = [39] := by decide +kernel
  have hp : stringslite_HasPrefix.f s (⟨#[39]⟩ : ByteArray) = some (q s) := by
    unfold stringslite_HasPrefix.f q
    rw [s1, l1]
    by_cases c : (s.size : Int) ≥ 1
    · rw [if_pos c, if_pos (by omega), if_pos c]
      have h0 : 0 < s.size := by omega
      have e : (s.extract 0 ((1 : Int)).toNat).toList = [s[0]'h0] := by
        rw [ByteArray.toList_eq, ByteArray.data_extract, Array.toList_extract, show ((1 : Int)).toNat = 1 from rfl]
        have := X.drop_get s 0 h0
        rw [List.drop_zero] at this
        rw [this]
        rfl
      have b0 : bt s 0 = ((s[0]'h0).toNat : Int) := bt_get (i := 0) h0
      rw [e, b0]
      congr 1
      by_cases z : s[0]'h0 = 39
      · rw [z]; simp [h0]
      · have : ¬ (((s[0]'h0).toNat : Int) = 39) := fun h => z ((u8_eq (n := 39) (by omega)).1 h)
        rw [decide_eq_false (fun h => this h.2)]
        simp [z]
    · rw [if_neg c, decide_eq_false (by omega)]
  unfold strings_CutPrefix.f stringslite_CutPrefix.f
  rw [hp]
  simp only [Option.bind_some]
  by_cases c : q s = true
  · rw [if_pos c, if_pos c, s1, if_pos (by omega), if_pos (by have := of_decide_eq_true c; omega), c]
    rfl
  · rw [if_neg c, if_neg c, show q s = false by simpa using c]
    rfl
/-- the error of a text, from the i-th on -/
def errs (s : ByteArray) : Nat → Nat → Int × Int × ByteArray
  | 0, _ => (2, 0, s)
  | m + 1, i => if (rdOf ByteArray.empty X.errL (i : Int)).toList = s.toList then (4, (i : Int), (⟨#[]⟩ : ByteArray)) else errs s m (i + 1)
/-- what a text is typed to -/
def typ (s : ByteArray) : Int × Int × ByteArray :=
  if s.size = 0 then (0, 0, (⟨#[]⟩ : ByteArray)) else if q s = true then (2, 0, s.extract 1 s.size) else if (prs s).2 = true then (1, (prs s).1, (⟨#[]⟩ : ByteArray)) else if wrd s ≥ 0 then (3, wrd s, (⟨#[]⟩ : ByteArray)) else errs s 8 1
theorem Typed_l (s : ByteArray) : ∀ (m i : Nat), i + m = 9 → Ev (fun k => value_Typed.l0 k s i) (errs s m i) := by
  intro m
  induction m with
  | zero => intro i h; exact E.succ (E.neg (by omega) (Ev.now _))
  | succ m ih =>
    intro i h
    refine E.succ (E.pos (by omega) (E.pos (by omega) (E.ite (fun c => ?_) (fun c => ?_))))
    · unfold errs
      rw [if_pos (show (rdOf ByteArray.empty X.errL (i : Int)).toList = s.toList from c)]
      exact Ev.now _
    · unfold errs
      rw [if_neg (show ¬ (rdOf ByteArray.empty X.errL (i : Int)).toList = s.toList from c), show wrap64 ((i : Int) + 1) = ((i + 1 : Nat) : Int) by rw [E.w64 (by omega) (by omega)]; omega]
      exact ih (i + 1) (by omega)
theorem Typed_is {s : ByteArray} (hs : s.size ≤ 140737488351232) : Ev (fun k => value_Typed.f k s) (typ s) := by
  unfold typ
  by_cases z : s.size = 0
  · rw [if_pos z]
    exact E.pos ((nil_iff s).2 z) (Ev.now _)
  rw [if_neg z]
  by_cases a : q s = true
  · rw [if_pos a]
    refine E.neg (fun h => z ((nil_iff s).1 h)) (E.bindn (cutq_is hs) (E.pos a ?_))
    simp only [if_pos a]
    exact Ev.now _
  rw [if_neg a]
  have hc := cutq_is hs
  rw [if_neg a] at hc
  refine E.neg (fun h => z ((nil_iff s).1 h)) (E.bindn hc (E.neg a (Ev.bind (Parse_is hs) ?_)))
  by_cases b : (prs s).2 = true
  · rw [if_pos b]; exact E.pos b (Ev.now _)
  rw [if_neg b]
  refine E.neg b (E.bindn (word_is hs) ?_)
  by_cases c : wrd s ≥ 0
  · rw [if_pos c]
    refine E.pos (decide_eq_true c) ?_
    by_cases d : wrd s = 1
    · refine E.bindn (a := (3, 1, (⟨#[]⟩ : ByteArray))) (by unfold value_flag.f; rw [if_pos (decide_eq_true d)]) ?_
      rw [d]; exact Ev.now _
    · have e : wrd s = 0 := by have := wrd_or s; omega
      refine E.bindn (a := (3, 0, (⟨#[]⟩ : ByteArray))) (by unfold value_flag.f; rw [if_neg (by simp [d])]) ?_
      rw [e]; exact Ev.now _
  rw [if_neg c]
  refine E.neg (by simp; omega) (E.bindn (a := _) rfl ?_)
  have h0 : errs s 9 0 = errs s 8 1 := by
    show (if (rdOf ByteArray.empty X.errL ((0 : Nat) : Int)).toList = s.toList then _ else errs s 8 1) = errs s 8 1
    refine if_neg (fun h => z ((nil_iff s).1 ?_))
    rw [← h]
    show (⟨#[]⟩ : ByteArray).toList = []
    rw [ByteArray.toList_eq]
  rw [← h0]
  exact Typed_l s 9 0 (by omega)
theorem ite_same {c : Prop} [Decidable c] {α : Type} {g f : Nat → Option α} {x y : α} (h : c → Ev g x) (k : ¬ c → Ev f y) : Ev (fun n => if c then g n else f n) (if c then x else y) :=
  E.ite (fun hc => by rw [if_pos hc]; exact h hc) (fun hc => by rw [if_neg hc]; exact k hc)
noncomputable def txt (a b : Int) (s : ByteArray) : ByteArray :=
  if a = 1 then prt b else if a = 2 then s else if a = 3 then (if b = 0 then (⟨#[70, 65, 76, 83, 69]⟩ : ByteArray) else (⟨#[84, 82, 85, 69]⟩ : ByteArray)) else if a = 4 then (if 1 ≤ b then (if b ≤ 8 then rdOf ByteArray.empty X.errL b else (⟨#[]⟩ : ByteArray)) else (⟨#[]⟩ : ByteArray)) else (⟨#[]⟩ : ByteArray)
theorem Text_is {a b : Int} {s : ByteArray} (h : -9223372036854775808 ≤ b) (k : b ≤ 9223372036854775807) : Ev (fun k => value_Text.f k a b s) (txt a b s) := by
  by_cases c0 : a = 0
  · subst c0
    exact E.pos rfl (Ev.now _)
  refine E.neg c0 (ite_same (fun _ => Ev.bind (Prt_is h k).1 (Ev.now _)) (fun _ => ite_same (fun _ => Ev.now _) (fun _ => ite_same (fun _ => ite_same (fun _ => Ev.now _) (fun _ => Ev.now _)) (fun _ => ite_same (fun _ => ite_same (fun _ => ite_same (fun _ => Ev.now _) (fun _ => Ev.now _)) (fun _ => Ev.now _)) (fun _ => Ev.now _)))))
/-- is it a value -/
def gdv (a b : Int) (s : ByteArray) : Prop :=
  (a = 0 ∧ b = 0 ∧ s.size = 0) ∨ (a = 1 ∧ good b ∧ s.size = 0) ∨ (a = 2 ∧ b = 0 ∧ s.size ≤ 255) ∨ (a = 3 ∧ (b = 0 ∨ b = 1) ∧ s.size = 0) ∨ (a = 4 ∧ 1 ≤ b ∧ b ≤ 8 ∧ s.size = 0)
instance (a b : Int) (s : ByteArray) : Decidable (gdv a b s) := by unfold gdv good; infer_instance
theorem vGood_is (a b : Int) (s : ByteArray) : value_Good.f a b s = some (decide (gdv a b s)) := by
  unfold value_Good.f gdv
  rw [Good_is]
  simp only [Option.bind_some, nil_iff]
  repeat' split
  all_goals (subst_vars; simp_all)
  all_goals omega
theorem rvGood_is (a b : Int) (s : ByteArray) : octavoref06_Good.f a b s = some (decide (gdv a b s)) := by
  have e : ∀ x : ByteArray, (x.toList == ([] : List UInt8)) = decide (x.size = 0) := fun x => by
    rw [beq_dec]
    simp only [nil_iff]
  unfold octavoref06_Good.f gdv
  rw [rGood_is]
  simp only [Option.bind_some, nil_iff, e]
  repeat' split
  all_goals (subst_vars; simp_all)
  all_goals first | omega | (rw [beq_dec]; done) | (intros; omega) | (rw [beq_dec])
end Go.Proofs.YtdbahgjfbleocaaDoor.Vl
