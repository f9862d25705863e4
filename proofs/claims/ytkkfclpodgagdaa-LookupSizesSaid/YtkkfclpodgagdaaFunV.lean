/- Values and areas as the program holds them; what the functions of layers 5, 6 and 17 answer of them. -/
import Derived.Test.YtkkfclpodgagdaaR
set_option maxRecDepth 100000
set_option linter.all false
namespace Go.Proofs.Ytkkfclpodgagdaa
open Ab R
theorem cll {P : Program} {g : FuncId} {args : List V} {r : V} {K : V → Prop} (h : Ret P g args r) (k : wfV 8 r → K r) : ∃ r, Ret P g args r ∧ (wfV 8 r → K r) := ⟨r, h, k⟩
theorem sda {p q : Prop} (h : p) (k : q) : Sd p ∧ q := ⟨⟨h⟩, k⟩
theorem conk {els : List (List V)} {i : Nat} {c : List V} {K : List V → Prop} (h : els[i]? = some c) (k : K c) : ∀ cs, els[i]? = some cs → K cs := fun cs hcs => by
  rw [h] at hcs
  rw [← Option.some.inj hcs]
  exact k
theorem mapk {α : Type} {l : List α} {f : α → List V} {i : Nat} {K : List V → Prop} (h : ∀ x, l[i]? = some x → K (f x)) : ∀ cs, (l.map f)[i]? = some cs → K cs := fun cs hcs => by
  rw [List.getElem?_map] at hcs
  cases hx : l[i]? with
  | none => rw [hx] at hcs; cases hcs
  | some x => rw [hx] at hcs; obtain rfl := Option.some.inj hcs; exact h x hx
structure GV where
  k : Int
  n : Int
  s : ByteArray
abbrev cV (v : GV) : List V := [.int .i64 v.k, .int .i64 v.n, .str v.s]
abbrev eV (v : GV) : V := .agg (cV v)
structure Ar where
  rows : Int
  cols : Int
  l : List GV
  many : Bool
abbrev cA (a : Ar) : List V := [.int .i64 a.rows, .int .i64 a.cols, .row false (a.l.map cV), .bool a.many]
abbrev eA (a : Ar) : V := .agg (cA a)
abbrev e0 : ByteArray := ⟨#[]⟩
def badS (n : Int) : GV := ⟨4, if n < 1 ∨ n > 8 then 2 else n, e0⟩
theorem value_Bad (n : Int) : Ret Try.prog F_value_Bad [.int .i64 n] (eV (badS n)) := by
  refine r_value_Bad rfl fun _ => ?_
  ((conv => whnf); refine csp (fun h => ?_) (fun h => ?_))
  · conv => whnf
    simp_all [badS]
  · ((conv => whnf); refine csp (fun h => ?_) (fun h => ?_))
    · conv => whnf
      simp_all [badS]
    · conv => whnf
      simp_all [badS]
      omega
def goodN (n : Int) : Bool := decide (-100000000000 ≤ n ∧ n ≤ 100000000000)
theorem num_Good (n : Int) : Ret Try.prog F_num_Good [.int .i64 n] (.bool (goodN n)) := by
  refine r_num_Good rfl fun _ => ?_
  ((conv => whnf); refine csp (fun h => ?_) (fun h => ?_))
  · conv => whnf
    simp_all [goodN]
  · conv => whnf
    simp_all [goodN]
    try omega
def ofS (n : Int) (ok : Bool) : GV := if ok && goodN n then ⟨1, n, e0⟩ else badS 5
theorem value_Of (n : Int) (ok : Bool) : Ret Try.prog F_value_Of [.int .i64 n, .bool ok] (eV (ofS n ok)) := by
  refine r_value_Of rfl fun _ => ?_
  ((conv => whnf); refine csp (fun h => ?_) (fun h => ?_))
  · refine cll (num_Good _) (fun _ => ?_)
    ((conv => whnf); refine csp (fun h => ?_) (fun h => ?_))
    · conv => whnf
      simp_all [ofS]
    · refine cll (value_Bad _) (fun _ => ?_)
      conv => whnf
      simp_all [ofS]
  · refine cll (value_Bad _) (fun _ => ?_)
    conv => whnf
    simp_all [ofS]
/-- The program's own forms of a value. -/
def ownS (v : GV) : V :=
  if v.k = 0 then .iface 76 (.agg []) else if v.k = 1 then .iface 77 (.int .i64 v.n) else if v.k = 2 then .iface 79 (.str v.s)
  else if v.k = 3 then .iface 78 (.bool (!decide (v.n = 0))) else if v.k = 4 then .iface 82 (.int .i64 v.n) else .nilI
theorem value_own (v : GV) : Ret Try.prog F_value_own [eV v] (ownS v) := by
  refine r_value_own rfl fun _ => ?_
  ((conv => whnf); refine csp (fun h => ?_) (fun h => ?_))
  · conv => whnf
    simp_all [ownS]
  ((conv => whnf); refine csp (fun h => ?_) (fun h => ?_))
  · conv => whnf
    simp_all [ownS]
  ((conv => whnf); refine csp (fun h => ?_) (fun h => ?_))
  · conv => whnf
    simp_all [ownS]
  ((conv => whnf); refine csp (fun h => ?_) (fun h => ?_))
  · conv => whnf
    simp_all [ownS]
  ((conv => whnf); refine csp (fun h => ?_) (fun h => ?_))
  · conv => whnf
    simp_all [ownS]
  conv => whnf
  simp_all [ownS]
def goodV (v : GV) : Bool :=
  if v.k = 0 then decide (v.n = 0 ∧ v.s = e0) else if v.k = 1 then goodN v.n && decide (v.s = e0) else if v.k = 2 then decide (v.n = 0 ∧ v.s.size ≤ 255)
  else if v.k = 3 then decide ((v.n = 0 ∨ v.n = 1) ∧ v.s = e0) else if v.k = 4 then decide (1 ≤ v.n ∧ v.n ≤ 8 ∧ v.s = e0) else false
theorem own0 {v : GV} (h : v.k = 0) : Ret Try.prog F_value_own [eV v] (.iface 76 (.agg [])) := by have := value_own v; simpa [ownS, h] using this
theorem own1 {v : GV} (h : v.k = 1) : Ret Try.prog F_value_own [eV v] (.iface 77 (.int .i64 v.n)) := by have := value_own v; simpa [ownS, h] using this
theorem own2 {v : GV} (h : v.k = 2) : Ret Try.prog F_value_own [eV v] (.iface 79 (.str v.s)) := by have := value_own v; simpa [ownS, h] using this
theorem own3 {v : GV} (h : v.k = 3) : Ret Try.prog F_value_own [eV v] (.iface 78 (.bool (!decide (v.n = 0)))) := by have := value_own v; simpa [ownS, h] using this
theorem own4 {v : GV} (h : v.k = 4) : Ret Try.prog F_value_own [eV v] (.iface 82 (.int .i64 v.n)) := by have := value_own v; simpa [ownS, h] using this
theorem own5 {v : GV} (h : ¬ v.k = 0) (h1 : ¬ v.k = 1) (h2 : ¬ v.k = 2) (h3 : ¬ v.k = 3) (h4 : ¬ v.k = 4) : Ret Try.prog F_value_own [eV v] .nilI := by have := value_own v; simpa [ownS, h, h1, h2, h3, h4] using this
theorem value_Good (v : GV) : Ret Try.prog F_value_Good [eV v] (.bool (goodV v)) := by
  obtain ⟨k, n, s⟩ := v
  by_cases h0 : k = 0
  · subst h0
    refine r_value_Good rfl fun _ => ?_
    repeat' ((conv => whnf); (first | refine csp (fun h => ?_) (fun h => ?_) | refine cll (own0 rfl) (fun _ => ?_) | refine cll (num_Good _) (fun _ => ?_) | (refine sda ?_ ?_; (focus (first | rfl | (simp; done)))) | refine sda ?_ ?_ | refine conk rfl ?_ | refine mapk (fun x hx => ?_) | intro hl))
    all_goals conv => whnf
    all_goals simp_all [goodV]
  by_cases h1 : k = 1
  · subst h1
    refine r_value_Good rfl fun _ => ?_
    repeat' ((conv => whnf); (first | refine csp (fun h => ?_) (fun h => ?_) | refine cll (own1 rfl) (fun _ => ?_) | refine cll (num_Good _) (fun _ => ?_) | (refine sda ?_ ?_; (focus (first | rfl | (simp; done)))) | refine sda ?_ ?_ | refine conk rfl ?_ | refine mapk (fun x hx => ?_) | intro hl))
    all_goals conv => whnf
    all_goals simp_all [goodV]
  by_cases h2 : k = 2
  · subst h2
    refine r_value_Good rfl fun _ => ?_
    repeat' ((conv => whnf); (first | refine csp (fun h => ?_) (fun h => ?_) | refine cll (own2 rfl) (fun _ => ?_) | refine cll (num_Good _) (fun _ => ?_) | (refine sda ?_ ?_; (focus (first | rfl | (simp; done)))) | refine sda ?_ ?_ | refine conk rfl ?_ | refine mapk (fun x hx => ?_) | intro hl))
    all_goals conv => whnf
    all_goals simp_all [goodV]
    all_goals omega
  by_cases h3 : k = 3
  · subst h3
    refine r_value_Good rfl fun _ => ?_
    repeat' ((conv => whnf); (first | refine csp (fun h => ?_) (fun h => ?_) | refine cll (own3 rfl) (fun _ => ?_) | refine cll (num_Good _) (fun _ => ?_) | (refine sda ?_ ?_; (focus (first | rfl | (simp; done)))) | refine sda ?_ ?_ | refine conk rfl ?_ | refine mapk (fun x hx => ?_) | intro hl))
    all_goals conv => whnf
    all_goals simp_all [goodV]
  by_cases h4 : k = 4
  · subst h4
    refine r_value_Good rfl fun _ => ?_
    repeat' ((conv => whnf); (first | refine csp (fun h => ?_) (fun h => ?_) | refine cll (own4 rfl) (fun _ => ?_) | refine cll (num_Good _) (fun _ => ?_) | (refine sda ?_ ?_; (focus (first | rfl | (simp; done)))) | refine sda ?_ ?_ | refine conk rfl ?_ | refine mapk (fun x hx => ?_) | intro hl))
    all_goals conv => whnf
    all_goals simp_all [goodV]
    all_goals omega
  · refine r_value_Good rfl fun _ => ?_
    repeat' ((conv => whnf); (first | refine csp (fun h => ?_) (fun h => ?_) | refine cll (own5 h0 h1 h2 h3 h4) (fun _ => ?_) | (refine sda ?_ ?_; (focus (first | rfl | (simp; done)))) | refine sda ?_ ?_ | refine conk rfl ?_ | refine mapk (fun x hx => ?_) | intro hl))
    all_goals conv => whnf
    all_goals simp_all [goodV]
/-- The number of a value, or the error's; a text is not asked. -/
def toNumS (v : GV) : Int × Int := if v.k = 0 then (0, 0) else if v.k = 1 then (v.n, 0) else if v.k = 3 then (if v.n = 0 then 0 else 10000, 0) else if v.k = 4 then (0, v.n) else (0, 2)
theorem value_ToNum (v : GV) (h2 : ¬ v.k = 2) : Ret Try.prog F_value_ToNum [eV v] (.tup [.int .i64 (toNumS v).1, .int .i64 (toNumS v).2]) := by
  obtain ⟨k, n, s⟩ := v
  by_cases h0 : k = 0
  · subst h0
    refine r_value_ToNum rfl fun _ => ?_
    repeat' ((conv => whnf); (first | refine csp (fun h => ?_) (fun h => ?_) | refine cll (own0 rfl) (fun _ => ?_) | (refine sda ?_ ?_; (focus (first | rfl | (simp; done)))) | refine sda ?_ ?_ | refine conk rfl ?_ | refine mapk (fun x hx => ?_) | intro hl))
    all_goals conv => whnf
    all_goals simp_all [toNumS]
  by_cases h1 : k = 1
  · subst h1
    refine r_value_ToNum rfl fun _ => ?_
    repeat' ((conv => whnf); (first | refine csp (fun h => ?_) (fun h => ?_) | refine cll (own1 rfl) (fun _ => ?_) | (refine sda ?_ ?_; (focus (first | rfl | (simp; done)))) | refine sda ?_ ?_ | refine conk rfl ?_ | refine mapk (fun x hx => ?_) | intro hl))
    all_goals conv => whnf
    all_goals simp_all [toNumS]
  by_cases h3 : k = 3
  · subst h3
    refine r_value_ToNum rfl fun _ => ?_
    repeat' ((conv => whnf); (first | refine csp (fun h => ?_) (fun h => ?_) | refine cll (own3 rfl) (fun _ => ?_) | (refine sda ?_ ?_; (focus (first | rfl | (simp; done)))) | refine sda ?_ ?_ | refine conk rfl ?_ | refine mapk (fun x hx => ?_) | intro hl))
    all_goals conv => whnf
    all_goals simp_all [toNumS]
  by_cases h4 : k = 4
  · subst h4
    refine r_value_ToNum rfl fun _ => ?_
    repeat' ((conv => whnf); (first | refine csp (fun h => ?_) (fun h => ?_) | refine cll (own4 rfl) (fun _ => ?_) | (refine sda ?_ ?_; (focus (first | rfl | (simp; done)))) | refine sda ?_ ?_ | refine conk rfl ?_ | refine mapk (fun x hx => ?_) | intro hl))
    all_goals conv => whnf
    all_goals simp_all [toNumS]
  · refine r_value_ToNum rfl fun _ => ?_
    repeat' ((conv => whnf); (first | refine csp (fun h => ?_) (fun h => ?_) | refine cll (own5 h0 h1 h2 h3 h4) (fun _ => ?_) | (refine sda ?_ ?_; (focus (first | rfl | (simp; done)))) | refine sda ?_ ?_ | refine conk rfl ?_ | refine mapk (fun x hx => ?_) | intro hl))
    all_goals conv => whnf
    all_goals simp_all [toNumS]
def goodA (a : Ar) : Bool := decide (1 ≤ a.rows ∧ 1 ≤ a.cols ∧ a.rows ≤ 4096 ∧ a.cols ≤ 4096 ∧ (a.l.length : Int) = a.rows * a.cols) && a.l.all goodV
theorem take_good {l : List GV} {i : Nat} {x : GV} {p : GV → Bool} (hx : l[i]? = some x) (h : (l.take i).all p = true) (hp : p x = true) : (l.take (i + 1)).all p = true := by
  rw [List.take_add_one, hx]
  simp only [Option.toList, List.all_append, h, List.all_cons, hp, List.all_nil, Bool.and_self]
theorem w64 {n : Int} (h : -9223372036854775808 ≤ n ∧ n ≤ 9223372036854775807) : IntKind.i64.wrap n = n := (wrap_iff .i64 n).2 (by simp only [kLo, kHi]; omega)
theorem mulb {r c : Int} (h1 : 1 ≤ r) (h2 : r ≤ 4096) (h3 : 1 ≤ c) (h4 : c ≤ 4096) : 1 ≤ r * c ∧ r * c ≤ 16777216 :=
  ⟨by have := Int.mul_le_mul h1 h3 (by omega) (by omega); omega, by have := Int.mul_le_mul h2 h4 (by omega) (by omega); omega⟩
theorem goodA_no {a : Ar} {i : Nat} {x : GV} (hx : a.l[i]? = some x) (h : goodV x = false) : goodA a = false := by
  unfold goodA
  rw [Bool.and_eq_false_iff]
  right
  rw [List.all_eq_false]
  exact ⟨x, List.mem_of_getElem? hx, by simp [h]⟩
theorem goodA_bad {a : Ar} (h : ¬ (1 ≤ a.rows ∧ 1 ≤ a.cols ∧ a.rows ≤ 4096 ∧ a.cols ≤ 4096 ∧ (a.l.length : Int) = a.rows * a.cols)) : goodA a = false := by
  unfold goodA
  rw [decide_eq_false h, Bool.false_and]
theorem goodA_yes {a : Ar} (h : 1 ≤ a.rows ∧ 1 ≤ a.cols ∧ a.rows ≤ 4096 ∧ a.cols ≤ 4096 ∧ (a.l.length : Int) = a.rows * a.cols) (hl : a.l.all goodV = true) : goodA a = true := by
  unfold goodA
  rw [decide_eq_true h, hl, Bool.true_and]
theorem maths_Good (a : Ar) : Ret Try.prog F_maths_Good [eA a] (.bool (goodA a)) := by
  refine r_maths_Good rfl fun hw => ?_
  clear hw
  repeat' ((conv => whnf); (first | refine csp (fun h => ?_) (fun h => ?_) | (refine sda ?_ ?_; (focus (first | rfl | (simp; done)))) | refine sda ?_ ?_ | refine conk rfl ?_ | refine mapk (fun x hx => ?_) | intro hl))
  rotate_right
  · try simp only [decide_eq_true_eq, decide_eq_false_iff_not, Bool.not_eq_true', Bool.not_eq_false', List.length_map, Int.not_lt, Int.not_le, Decidable.not_not, gt_iff_lt, ge_iff_le] at *
    have hm := mulb (r := a.rows) (c := a.cols) (by omega) (by omega) (by omega) (by omega)
    have hL : (a.l.length : Int) = a.rows * a.cols := by
      have := w64 (n := a.rows * a.cols) (by omega)
      omega
    refine ⟨Int, [35, 36, 37], [], fun i => [(35, .row false (a.l.map cV)), (36, .int .i64 a.l.length), (37, .int .i64 i)], fun _ => [], fun i => 0 ≤ i ∧ i ≤ a.l.length ∧ (a.l.take i.toNat).all goodV = true, fun i => (a.l.length - i).toNat, rfl, ?_, fun i hi => ?_⟩
    · exact ⟨0, rfl, rfl, by simp⟩
    · obtain ⟨hi0, hi1, hi2⟩ := hi
      repeat' ((conv => whnf); (first | refine csp (fun h => ?_) (fun h => ?_) | refine cll (value_Good _) (fun _ => ?_) | (refine sda ?_ ?_; (focus (first | rfl | (simp; done)))) | refine sda ?_ ?_ | refine conk rfl ?_ | refine mapk (fun x hx => ?_) | intro hl))
      · try simp only [decide_eq_true_eq, decide_eq_false_iff_not, Bool.not_eq_true', Bool.not_eq_false', List.length_map, Int.not_lt, Int.not_le, Decidable.not_not, gt_iff_lt, ge_iff_le] at *
        omega
      · conv => whnf
        rw [goodA_no hx (by simpa using h)]
      · conv => whnf
        try simp only [decide_eq_true_eq, decide_eq_false_iff_not, Bool.not_eq_true', Bool.not_eq_false', List.length_map, Int.not_lt, Int.not_le, Decidable.not_not, gt_iff_lt, ge_iff_le] at *
        have hw1 := w64 (n := i + 1) (by omega)
        refine ⟨i + 1, by rw [hw1], by trivial, ⟨by omega, by omega, ?_⟩, by omega⟩
        rw [show (i + 1).toNat = i.toNat + 1 by omega]
        exact take_good hx hi2 h
      · conv => whnf
        try simp only [decide_eq_true_eq, decide_eq_false_iff_not, Bool.not_eq_true', Bool.not_eq_false', List.length_map, Int.not_lt, Int.not_le, Decidable.not_not, gt_iff_lt, ge_iff_le] at *
        rw [goodA_yes (by omega)]
        have : a.l.take i.toNat = a.l := List.take_of_length_le (by omega)
        rwa [this] at hi2
  all_goals conv => whnf
  all_goals try simp only [decide_eq_true_eq, decide_eq_false_iff_not, Bool.not_eq_true', Bool.not_eq_false', List.length_map, Int.not_lt, Int.not_le, Decidable.not_not, gt_iff_lt, ge_iff_le] at *
  · rw [goodA_bad (by omega)]
  · rw [goodA_bad (by omega)]
  · rw [goodA_bad (by omega)]
  · rw [goodA_bad (by omega)]
  · have hm := mulb (r := a.rows) (c := a.cols) (by omega) (by omega) (by omega) (by omega)
    rw [w64 (by omega)] at h
    rw [goodA_bad (by omega)]
end Go.Proofs.Ytkkfclpodgagdaa
