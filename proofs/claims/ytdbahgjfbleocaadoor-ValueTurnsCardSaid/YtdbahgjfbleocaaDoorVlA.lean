/- What values are turned into, in the program and in the document's answer. -/
import Derived.Test.YtdbahgjfbleocaaDoorNumK
import Derived.Test.YtdbahgjfbleocaaDoorPureNumBack
import Derived.Test.YtdbahgjfbleocaaDoorPx0
import Derived.Test.YtdbahgjfbleocaaDoorPx2
import Derived.Test.YtdbahgjfbleocaaDoorPx3
import Derived.Test.YtdbahgjfbleocaaDoorPx4
import Derived.Test.YtdbahgjfbleocaaDoorPx5
import Derived.Test.YtdbahgjfbleocaaDoorPx6
namespace Go.Proofs.YtdbahgjfbleocaaDoor.Vl
open Go.RowKit Go.Proofs.YtdbahgjfbleocaaDoor.P Go.Proofs.YtdbahgjfbleocaaDoor.Nm Go.Proofs.YtdbahgjfbleocaaDoorW.PrintWords Go.Proofs.YtdbahgjfbleocaaDoorW.PrintLast
set_option linter.unusedVariables false
set_option linter.unusedSimpArgs false

theorem beq_dec {α : Type} [BEq α] [LawfulBEq α] [DecidableEq α] (x y : α) : (x == y) = decide (x = y) := by
  rw [Bool.eq_iff_iff]
  simp

/-! ### numbers as texts -/
noncomputable def prt (n : Int) : ByteArray := if h : -9223372036854775808 ≤ n ∧ n ≤ 9223372036854775807 then Classical.choose (Print_is n h.1 h.2) else (⟨#[]⟩ : ByteArray)
theorem Prt_is {n : Int} (h : -9223372036854775808 ≤ n) (k : n ≤ 9223372036854775807) : Ev (fun j => num_Print.f j n) (prt n) ∧ Ev (fun j => octavoref05_Print.f j n) (prt n) ∧ (good n → prs (prt n) = (n, true)) := by
  have e : prt n = Classical.choose (Print_is n h k) := dif_pos ⟨h, k⟩
  obtain ⟨a, b, y, ⟨x, hx, ty⟩, hp⟩ := Classical.choose_spec (Print_is n h k)
  rw [← e] at a b hp
  exact ⟨a, b, fun g => Pure.back g hx ty hp⟩

theorem prt_sz {n : Int} (h : -9223372036854775808 ≤ n) (k : n ≤ 9223372036854775807) : (prt n).size ≤ 30 := by
  have e : prt n = Classical.choose (Print_is n h k) := dif_pos ⟨h, k⟩
  obtain ⟨a, b, y, ⟨x, hx, ty⟩, hp⟩ := Classical.choose_spec (Print_is n h k)
  rw [← e] at hp
  have p16 : (10 : Int) ^ (15 + 1) = 10000000000000000 := by decide
  obtain ⟨y', t1, t2, _⟩ := trim_l 4 x (by rw [hx, son_size]; rfl) (by omega)
  have ey := E.uniq ty t1
  subst ey
  have d := dig_len 15 (ab n / 10000) []
  have l1 : (if n < 0 then ([45] : List Int) else []).length ≤ 1 := by split <;> simp
  have l2 : (strOfNums ((if n < 0 then [45] else []) ++ dig 15 (ab n / 10000) [])).size ≤ 17 := by
    rw [son_size, List.length_append]
    simp only [List.length_nil] at d
    omega
  have l3 : x.size = 4 := by rw [hx, son_size]; rfl
  rw [hp]
  unfold dot
  split
  · omega
  · rw [ByteArray.size_append, ByteArray.size_append]
    have : (⟨#[46]⟩ : ByteArray).size = 1 := rfl
    omega

/-! ### texts as values -/
/-- the text in capital letters -/
def up (s : ByteArray) : ByteArray := X.mapS X.gUpper s
theorem Upper_is {s : ByteArray} (h : s.size ≤ 140737488351232) : value_Upper.f s = some (up s) := if_pos (by omega)
/-- 1: TRUE, 0: FALSE, -1: neither -/
def wrd (s : ByteArray) : Int := if (up s).toList = ([84, 82, 85, 69] : List UInt8) then 1 else if (up s).toList = ([70, 65, 76, 83, 69] : List UInt8) then 0 else -1
theorem word_is {s : ByteArray} (h : s.size ≤ 140737488351232) : value_word.f s = some (decide (wrd s = 1), decide (wrd s ≥ 0)) := by
  unfold value_word.f wrd
  rw [Upper_is h]
  simp only [Option.bind_some]
  split
  · rfl
  · split <;> rfl
/-! ### what a value is turned into -/
def tnum (a b : Int) (s : ByteArray) : Int × Int :=
  if a = 0 then (0, 0) else if a = 1 then (b, 0) else if a = 3 then (if b = 0 then (0, 0) else (10000, 0)) else if a = 2 then (if (prs s).2 = true then ((prs s).1, 0) else (0, 2)) else if a = 4 then (0, b) else (0, 2)
theorem ite_same {c : Prop} [Decidable c] {α : Type} {g f : Nat → Option α} {x y : α} (h : c → Ev g x) (k : ¬ c → Ev f y) : Ev (fun n => if c then g n else f n) (if c then x else y) :=
  E.ite (fun hc => by rw [if_pos hc]; exact h hc) (fun hc => by rw [if_neg hc]; exact k hc)
theorem ToNum_is {a b : Int} {s : ByteArray} (hs : s.size ≤ 140737488351232) : Ev (fun k => value_ToNum.f k a b s) (tnum a b s) :=
  ite_same (fun _ => Ev.now _) (fun _ => ite_same (fun _ => Ev.now _) (fun _ => ite_same (fun _ => ite_same (fun _ => Ev.now _) (fun _ => Ev.now _)) (fun _ => ite_same (fun _ => Ev.bind (Parse_is hs) (ite_same (fun _ => Ev.now _) (fun _ => Ev.now _))) (fun _ => ite_same (fun _ => Ev.now _) (fun _ => Ev.now _)))))
noncomputable def txt (a b : Int) (s : ByteArray) : ByteArray :=
  if a = 1 then prt b else if a = 2 then s else if a = 3 then (if b = 0 then (⟨#[70, 65, 76, 83, 69]⟩ : ByteArray) else (⟨#[84, 82, 85, 69]⟩ : ByteArray)) else if a = 4 then (if 1 ≤ b then (if b ≤ 8 then rdOf ByteArray.empty X.errL b else (⟨#[]⟩ : ByteArray)) else (⟨#[]⟩ : ByteArray)) else (⟨#[]⟩ : ByteArray)
theorem Text_is {a b : Int} {s : ByteArray} (h : -9223372036854775808 ≤ b) (k : b ≤ 9223372036854775807) : Ev (fun k => value_Text.f k a b s) (txt a b s) := by
  by_cases c0 : a = 0
  · subst c0
    exact E.pos rfl (Ev.now _)
  refine E.neg c0 (ite_same (fun _ => Ev.bind (Prt_is h k).1 (Ev.now _)) (fun _ => ite_same (fun _ => Ev.now _) (fun _ => ite_same (fun _ => ite_same (fun _ => Ev.now _) (fun _ => Ev.now _)) (fun _ => ite_same (fun _ => ite_same (fun _ => ite_same (fun _ => Ev.now _) (fun _ => Ev.now _)) (fun _ => Ev.now _)) (fun _ => Ev.now _)))))
noncomputable def ttxt (a b : Int) (s : ByteArray) : ByteArray × Int := if a = 4 then ((⟨#[]⟩ : ByteArray), b) else (txt a b s, 0)
theorem ToText_is {a b : Int} {s : ByteArray} (h : -9223372036854775808 ≤ b) (k : b ≤ 9223372036854775807) : Ev (fun k => value_ToText.f k a b s) (ttxt a b s) := by
  have T : ∀ a', a' ≠ 4 → Ev (fun k => (value_Text.f k a' b s).bind fun t => some (t, 0)) (ttxt a' b s) := fun a' ha => by
    unfold ttxt
    rw [if_neg ha]
    exact Ev.bind (Text_is h k) (Ev.now _)
  refine E.ite (fun c => ?_) (fun _ => E.ite (fun c => ?_) (fun _ => E.ite (fun c => ?_) (fun _ => E.ite (fun c => ?_) (fun _ => E.ite (fun c => ?_) (fun c => T a c)))))
  · subst c; exact T 0 (by decide)
  · subst c; exact T 1 (by decide)
  · subst c; exact T 2 (by decide)
  · subst c; exact T 3 (by decide)
  · subst c; exact Ev.now _
def tboo (a b : Int) (s : ByteArray) : Bool × Int :=
  if a = 0 then (false, 0) else if a = 1 then ((b != 0), 0) else if a = 2 then (if wrd s ≥ 0 then (decide (wrd s = 1), 0) else (false, 2)) else if a = 3 then ((b != 0), 0) else if a = 4 then (false, b) else (false, 2)
theorem ToBool_is {a b : Int} {s : ByteArray} (hs : s.size ≤ 140737488351232) : value_ToBool.f a b s = some (tboo a b s) := by
  unfold value_ToBool.f tboo
  rw [word_is hs]
  simp only [Option.bind_some, decide_eq_true_eq]
  repeat' split
  all_goals first | rfl | contradiction
/-- is it a value -/
def gdv (a b : Int) (s : ByteArray) : Prop :=
  (a = 0 ∧ b = 0 ∧ s.size = 0) ∨ (a = 1 ∧ good b ∧ s.size = 0) ∨ (a = 2 ∧ b = 0 ∧ s.size ≤ 255) ∨ (a = 3 ∧ (b = 0 ∨ b = 1) ∧ s.size = 0) ∨ (a = 4 ∧ 1 ≤ b ∧ b ≤ 8 ∧ s.size = 0)
instance (a b : Int) (s : ByteArray) : Decidable (gdv a b s) := by unfold gdv good; infer_instance
theorem rvGood_is (a b : Int) (s : ByteArray) : octavoref06_Good.f a b s = some (decide (gdv a b s)) := by
  have e : ∀ x : ByteArray, (x.toList == ([] : List UInt8)) = decide (x.size = 0) := fun x => by
    rw [beq_dec]
    simp only [nil_iff]
  unfold octavoref06_Good.f gdv
  rw [rGood_is]
  simp only [Option.bind_some, nil_iff, e]
  repeat' split
  all_goals (subst_vars; simp_all)
  all_goals first | omega | (rw [beq_dec]; done) | (intros; omega) | (rw [beq_dec])
end Go.Proofs.YtdbahgjfbleocaaDoor.Vl
