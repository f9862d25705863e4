/- What the functions answer, and the law. -/
import Derived.Test.YtnpcmgajplikbaaGreatDoorR
import Derived.Test.YtnpcmgajplikbaaGreatDoorB
import Derived.Test.YtnpcmgajplikbaaGreatDoorPl
import Derived.Test.YtnpcmgajplikbaaGreatDoorPx1
/- Values and areas as the program holds them; what the functions of layers 5, 6 and 17 answer of them. -/
set_option maxRecDepth 100000
set_option linter.all false
namespace Go.Proofs.YtnpcmgajplikbaaGreatDoor
open Ab R
theorem cll {P : Program} {g : FuncId} {args : List V} {r : V} {K : V → Prop} (h : Ret P g args r) (k : wfV 8 r → K r) : ∃ r, Ret P g args r ∧ (wfV 8 r → K r) := ⟨r, h, k⟩
theorem sda {p q : Prop} (h : p) (k : q) : Sd p ∧ q := ⟨⟨h⟩, k⟩
theorem conk {els : List (List V)} {i : Nat} {c : List V} {K : List V → Prop} (h : els[i]? = some c) (k : K c) : ∀ cs, els[i]? = some cs → K cs := fun cs hcs => by
  rw [h] at hcs
  rw [← Option.some.inj hcs]
  exact k
theorem ldk {o : Option V} {w : V} {K : V → Prop} (h : o = some w) (k : K w) : ∀ v, o = some v → K v := fun v hv => by
  rw [h] at hv
  rw [← Option.some.inj hv]
  exact k
theorem mapk {α : Type} {l : List α} {f : α → List V} {i : Nat} {K : List V → Prop} (h : ∀ x, l[i]? = some x → K (f x)) : ∀ cs, (l.map f)[i]? = some cs → K cs := fun cs hcs => by
  rw [List.getElem?_map] at hcs
  cases hx : l[i]? with
  | none => rw [hx] at hcs; cases hcs
  | some x => rw [hx] at hcs; obtain rfl := Option.some.inj hcs; exact h x hx
structure GV where
  k : Int
  n : Int
  s : ByteArray
abbrev cV (v : GV) : List V := [.int .i64 v.k, .int .i64 v.n, .str v.s]
abbrev eV (v : GV) : V := .agg (cV v)
structure Ar where
  rows : Int
  cols : Int
  l : List GV
  many : Bool
abbrev cA (a : Ar) : List V := [.int .i64 a.rows, .int .i64 a.cols, .row false (a.l.map cV), .bool a.many]
abbrev eA (a : Ar) : V := .agg (cA a)
abbrev e0 : ByteArray := ⟨#[]⟩
def badS (n : Int) : GV := ⟨4, if n < 1 ∨ n > 8 then 2 else n, e0⟩
theorem value_Bad (n : Int) : Ret Tryz.prog F_value_Bad [.int .i64 n] (eV (badS n)) := by
  refine r_value_Bad rfl fun _ => ?_
  ((conv => whnf); refine csp (fun h => ?_) (fun h => ?_))
  · conv => whnf
    simp_all [badS]
  · ((conv => whnf); refine csp (fun h => ?_) (fun h => ?_))
    · conv => whnf
      simp_all [badS]
    · conv => whnf
      simp_all [badS]
      omega
def goodN (n : Int) : Bool := decide (-100000000000 ≤ n ∧ n ≤ 100000000000)
theorem num_Good (n : Int) : Ret Tryz.prog F_num_Good [.int .i64 n] (.bool (goodN n)) := by
  refine r_num_Good rfl fun _ => ?_
  ((conv => whnf); refine csp (fun h => ?_) (fun h => ?_))
  · conv => whnf
    simp_all [goodN]
  · conv => whnf
    simp_all [goodN]
    try omega
def ofS (n : Int) (ok : Bool) : GV := if ok && goodN n then ⟨1, n, e0⟩ else badS 5
theorem value_Of (n : Int) (ok : Bool) : Ret Tryz.prog F_value_Of [.int .i64 n, .bool ok] (eV (ofS n ok)) := by
  refine r_value_Of rfl fun _ => ?_
  ((conv => whnf); refine csp (fun h => ?_) (fun h => ?_))
  · refine cll (num_Good _) (fun _ => ?_)
    ((conv => whnf); refine csp (fun h => ?_) (fun h => ?_))
    · conv => whnf
      simp_all [ofS]
    · refine cll (value_Bad _) (fun _ => ?_)
      conv => whnf
      simp_all [ofS]
  · refine cll (value_Bad _) (fun _ => ?_)
    conv => whnf
    simp_all [ofS]
/-- The program's own forms of a value. -/
def ownS (v : GV) : V :=
  if v.k = 0 then .iface 68 (.agg []) else if v.k = 1 then .iface 69 (.int .i64 v.n) else if v.k = 2 then .iface 70 (.str v.s)
  else if v.k = 3 then .iface 71 (.bool (!decide (v.n = 0))) else if v.k = 4 then .iface 72 (.int .i64 v.n) else .nilI
theorem value_own (v : GV) : Ret Tryz.prog F_value_own [eV v] (ownS v) := by
  refine r_value_own rfl fun _ => ?_
  ((conv => whnf); refine csp (fun h => ?_) (fun h => ?_))
  · conv => whnf
    simp_all [ownS]
  ((conv => whnf); refine csp (fun h => ?_) (fun h => ?_))
  · conv => whnf
    simp_all [ownS]
  ((conv => whnf); refine csp (fun h => ?_) (fun h => ?_))
  · conv => whnf
    simp_all [ownS]
  ((conv => whnf); refine csp (fun h => ?_) (fun h => ?_))
  · conv => whnf
    simp_all [ownS]
  ((conv => whnf); refine csp (fun h => ?_) (fun h => ?_))
  · conv => whnf
    simp_all [ownS]
  conv => whnf
  simp_all [ownS]
def goodV (v : GV) : Bool :=
  if v.k = 0 then decide (v.n = 0 ∧ v.s = e0) else if v.k = 1 then goodN v.n && decide (v.s = e0) else if v.k = 2 then decide (v.n = 0 ∧ v.s.size ≤ 255)
  else if v.k = 3 then decide ((v.n = 0 ∨ v.n = 1) ∧ v.s = e0) else if v.k = 4 then decide (1 ≤ v.n ∧ v.n ≤ 8 ∧ v.s = e0) else false
theorem own0 {v : GV} (h : v.k = 0) : Ret Tryz.prog F_value_own [eV v] (.iface 68 (.agg [])) := by have := value_own v; simpa [ownS, h] using this
theorem own1 {v : GV} (h : v.k = 1) : Ret Tryz.prog F_value_own [eV v] (.iface 69 (.int .i64 v.n)) := by have := value_own v; simpa [ownS, h] using this
theorem own2 {v : GV} (h : v.k = 2) : Ret Tryz.prog F_value_own [eV v] (.iface 70 (.str v.s)) := by have := value_own v; simpa [ownS, h] using this
theorem own3 {v : GV} (h : v.k = 3) : Ret Tryz.prog F_value_own [eV v] (.iface 71 (.bool (!decide (v.n = 0)))) := by have := value_own v; simpa [ownS, h] using this
theorem own4 {v : GV} (h : v.k = 4) : Ret Tryz.prog F_value_own [eV v] (.iface 72 (.int .i64 v.n)) := by have := value_own v; simpa [ownS, h] using this
theorem own5 {v : GV} (h : ¬ v.k = 0) (h1 : ¬ v.k = 1) (h2 : ¬ v.k = 2) (h3 : ¬ v.k = 3) (h4 : ¬ v.k = 4) : Ret Tryz.prog F_value_own [eV v] .nilI := by have := value_own v; simpa [ownS, h, h1, h2, h3, h4] using this
theorem value_Good (v : GV) : Ret Tryz.prog F_value_Good [eV v] (.bool (goodV v)) := by
  obtain ⟨k, n, s⟩ := v
  by_cases h0 : k = 0
  · subst h0
    refine r_value_Good rfl fun _ => ?_
    repeat' ((conv => whnf); (first | refine csp (fun h => ?_) (fun h => ?_) | refine cll (own0 rfl) (fun _ => ?_) | refine cll (num_Good _) (fun _ => ?_) | (refine sda ?_ ?_; (focus (first | rfl | (simp; done)))) | refine sda ?_ ?_ | refine conk rfl ?_ | refine ldk rfl ?_ | refine mapk (fun x hx => ?_) | intro hl))
    all_goals conv => whnf
    all_goals simp_all [goodV]
  by_cases h1 : k = 1
  · subst h1
    refine r_value_Good rfl fun _ => ?_
    repeat' ((conv => whnf); (first | refine csp (fun h => ?_) (fun h => ?_) | refine cll (own1 rfl) (fun _ => ?_) | refine cll (num_Good _) (fun _ => ?_) | (refine sda ?_ ?_; (focus (first | rfl | (simp; done)))) | refine sda ?_ ?_ | refine conk rfl ?_ | refine ldk rfl ?_ | refine mapk (fun x hx => ?_) | intro hl))
    all_goals conv => whnf
    all_goals simp_all [goodV]
  by_cases h2 : k = 2
  · subst h2
    refine r_value_Good rfl fun _ => ?_
    repeat' ((conv => whnf); (first | refine csp (fun h => ?_) (fun h => ?_) | refine cll (own2 rfl) (fun _ => ?_) | refine cll (num_Good _) (fun _ => ?_) | (refine sda ?_ ?_; (focus (first | rfl | (simp; done)))) | refine sda ?_ ?_ | refine conk rfl ?_ | refine ldk rfl ?_ | refine mapk (fun x hx => ?_) | intro hl))
    all_goals conv => whnf
    all_goals simp_all [goodV]
    all_goals omega
  by_cases h3 : k = 3
  · subst h3
    refine r_value_Good rfl fun _ => ?_
    repeat' ((conv => whnf); (first | refine csp (fun h => ?_) (fun h => ?_) | refine cll (own3 rfl) (fun _ => ?_) | refine cll (num_Good _) (fun _ => ?_) | (refine sda ?_ ?_; (focus (first | rfl | (simp; done)))) | refine sda ?_ ?_ | refine conk rfl ?_ | refine ldk rfl ?_ | refine mapk (fun x hx => ?_) | intro hl))
    all_goals conv => whnf
    all_goals simp_all [goodV]
  by_cases h4 : k = 4
  · subst h4
    refine r_value_Good rfl fun _ => ?_
    repeat' ((conv => whnf); (first | refine csp (fun h => ?_) (fun h => ?_) | refine cll (own4 rfl) (fun _ => ?_) | refine cll (num_Good _) (fun _ => ?_) | (refine sda ?_ ?_; (focus (first | rfl | (simp; done)))) | refine sda ?_ ?_ | refine conk rfl ?_ | refine ldk rfl ?_ | refine mapk (fun x hx => ?_) | intro hl))
    all_goals conv => whnf
    all_goals simp_all [goodV]
    all_goals omega
  · refine r_value_Good rfl fun _ => ?_
    repeat' ((conv => whnf); (first | refine csp (fun h => ?_) (fun h => ?_) | refine cll (own5 h0 h1 h2 h3 h4) (fun _ => ?_) | (refine sda ?_ ?_; (focus (first | rfl | (simp; done)))) | refine sda ?_ ?_ | refine conk rfl ?_ | refine ldk rfl ?_ | refine mapk (fun x hx => ?_) | intro hl))
    all_goals conv => whnf
    all_goals simp_all [goodV]
/-- The number of a value, or the error's; a text is not asked. -/
def toNumS (v : GV) : Int × Int := if v.k = 0 then (0, 0) else if v.k = 1 then (v.n, 0) else if v.k = 3 then (if v.n = 0 then 0 else 10000, 0) else if v.k = 4 then (0, v.n) else (0, 2)
theorem value_ToNum (v : GV) (h2 : ¬ v.k = 2) : Ret Tryz.prog F_value_ToNum [eV v] (.tup [.int .i64 (toNumS v).1, .int .i64 (toNumS v).2]) := by
  obtain ⟨k, n, s⟩ := v
  by_cases h0 : k = 0
  · subst h0
    refine r_value_ToNum rfl fun _ => ?_
    repeat' ((conv => whnf); (first | refine csp (fun h => ?_) (fun h => ?_) | refine cll (own0 rfl) (fun _ => ?_) | (refine sda ?_ ?_; (focus (first | rfl | (simp; done)))) | refine sda ?_ ?_ | refine conk rfl ?_ | refine ldk rfl ?_ | refine mapk (fun x hx => ?_) | intro hl))
    all_goals conv => whnf
    all_goals simp_all [toNumS]
  by_cases h1 : k = 1
  · subst h1
    refine r_value_ToNum rfl fun _ => ?_
    repeat' ((conv => whnf); (first | refine csp (fun h => ?_) (fun h => ?_) | refine cll (own1 rfl) (fun _ => ?_) | (refine sda ?_ ?_; (focus (first | rfl | (simp; done)))) | refine sda ?_ ?_ | refine conk rfl ?_ | refine ldk rfl ?_ | refine mapk (fun x hx => ?_) | intro hl))
    all_goals conv => whnf
    all_goals simp_all [toNumS]
  by_cases h3 : k = 3
  · subst h3
    refine r_value_ToNum rfl fun _ => ?_
    repeat' ((conv => whnf); (first | refine csp (fun h => ?_) (fun h => ?_) | refine cll (own3 rfl) (fun _ => ?_) | (refine sda ?_ ?_; (focus (first | rfl | (simp; done)))) | refine sda ?_ ?_ | refine conk rfl ?_ | refine ldk rfl ?_ | refine mapk (fun x hx => ?_) | intro hl))
    all_goals conv => whnf
    all_goals simp_all [toNumS]
  by_cases h4 : k = 4
  · subst h4
    refine r_value_ToNum rfl fun _ => ?_
    repeat' ((conv => whnf); (first | refine csp (fun h => ?_) (fun h => ?_) | refine cll (own4 rfl) (fun _ => ?_) | (refine sda ?_ ?_; (focus (first | rfl | (simp; done)))) | refine sda ?_ ?_ | refine conk rfl ?_ | refine ldk rfl ?_ | refine mapk (fun x hx => ?_) | intro hl))
    all_goals conv => whnf
    all_goals simp_all [toNumS]
  · refine r_value_ToNum rfl fun _ => ?_
    repeat' ((conv => whnf); (first | refine csp (fun h => ?_) (fun h => ?_) | refine cll (own5 h0 h1 h2 h3 h4) (fun _ => ?_) | (refine sda ?_ ?_; (focus (first | rfl | (simp; done)))) | refine sda ?_ ?_ | refine conk rfl ?_ | refine ldk rfl ?_ | refine mapk (fun x hx => ?_) | intro hl))
    all_goals conv => whnf
    all_goals simp_all [toNumS]
def goodA (a : Ar) : Bool := decide (1 ≤ a.rows ∧ 1 ≤ a.cols ∧ a.rows ≤ 4096 ∧ a.cols ≤ 4096 ∧ (a.l.length : Int) = a.rows * a.cols) && a.l.all goodV
theorem take_good {l : List GV} {i : Nat} {x : GV} {p : GV → Bool} (hx : l[i]? = some x) (h : (l.take i).all p = true) (hp : p x = true) : (l.take (i + 1)).all p = true := by
  rw [List.take_add_one, hx]
  simp only [Option.toList, List.all_append, h, List.all_cons, hp, List.all_nil, Bool.and_self]
theorem w64 {n : Int} (h : -9223372036854775808 ≤ n ∧ n ≤ 9223372036854775807) : IntKind.i64.wrap n = n := (wrap_iff .i64 n).2 (by simp only [kLo, kHi]; omega)
theorem mulb {r c : Int} (h1 : 1 ≤ r) (h2 : r ≤ 4096) (h3 : 1 ≤ c) (h4 : c ≤ 4096) : 1 ≤ r * c ∧ r * c ≤ 16777216 :=
  ⟨by have := Int.mul_le_mul h1 h3 (by omega) (by omega); omega, by have := Int.mul_le_mul h2 h4 (by omega) (by omega); omega⟩
theorem goodA_no {a : Ar} {i : Nat} {x : GV} (hx : a.l[i]? = some x) (h : goodV x = false) : goodA a = false := by
  unfold goodA
  rw [Bool.and_eq_false_iff]
  right
  rw [List.all_eq_false]
  exact ⟨x, List.mem_of_getElem? hx, by simp [h]⟩
theorem goodA_bad {a : Ar} (h : ¬ (1 ≤ a.rows ∧ 1 ≤ a.cols ∧ a.rows ≤ 4096 ∧ a.cols ≤ 4096 ∧ (a.l.length : Int) = a.rows * a.cols)) : goodA a = false := by
  unfold goodA
  rw [decide_eq_false h, Bool.false_and]
theorem goodA_yes {a : Ar} (h : 1 ≤ a.rows ∧ 1 ≤ a.cols ∧ a.rows ≤ 4096 ∧ a.cols ≤ 4096 ∧ (a.l.length : Int) = a.rows * a.cols) (hl : a.l.all goodV = true) : goodA a = true := by
  unfold goodA
  rw [decide_eq_true h, hl, Bool.true_and]
theorem maths_Good (a : Ar) : Ret Tryz.prog F_maths_Good [eA a] (.bool (goodA a)) := by
  refine r_maths_Good rfl fun hw => ?_
  clear hw
  repeat' ((conv => whnf); (first | refine csp (fun h => ?_) (fun h => ?_) | (refine sda ?_ ?_; (focus (first | rfl | (simp; done)))) | refine sda ?_ ?_ | refine conk rfl ?_ | refine ldk rfl ?_ | refine mapk (fun x hx => ?_) | intro hl))
  rotate_right
  · try simp only [decide_eq_true_eq, decide_eq_false_iff_not, Bool.not_eq_true', Bool.not_eq_false', List.length_map, Int.not_lt, Int.not_le, Decidable.not_not, gt_iff_lt, ge_iff_le] at *
    have hm := mulb (r := a.rows) (c := a.cols) (by omega) (by omega) (by omega) (by omega)
    have hL : (a.l.length : Int) = a.rows * a.cols := by
      have := w64 (n := a.rows * a.cols) (by omega)
      omega
    refine ⟨Int, [35, 36, 37], [], fun i => [(35, .row false (a.l.map cV)), (36, .int .i64 a.l.length), (37, .int .i64 i)], fun _ => [], fun i => 0 ≤ i ∧ i ≤ a.l.length ∧ (a.l.take i.toNat).all goodV = true, fun i => (a.l.length - i).toNat, rfl, ?_, fun i hi => ?_⟩
    · exact ⟨0, rfl, rfl, by simp⟩
    · obtain ⟨hi0, hi1, hi2⟩ := hi
      repeat' ((conv => whnf); (first | refine csp (fun h => ?_) (fun h => ?_) | refine cll (value_Good _) (fun _ => ?_) | (refine sda ?_ ?_; (focus (first | rfl | (simp; done)))) | refine sda ?_ ?_ | refine conk rfl ?_ | refine ldk rfl ?_ | refine mapk (fun x hx => ?_) | intro hl))
      · try simp only [decide_eq_true_eq, decide_eq_false_iff_not, Bool.not_eq_true', Bool.not_eq_false', List.length_map, Int.not_lt, Int.not_le, Decidable.not_not, gt_iff_lt, ge_iff_le] at *
        omega
      · conv => whnf
        rw [goodA_no hx (by simpa using h)]
      · conv => whnf
        try simp only [decide_eq_true_eq, decide_eq_false_iff_not, Bool.not_eq_true', Bool.not_eq_false', List.length_map, Int.not_lt, Int.not_le, Decidable.not_not, gt_iff_lt, ge_iff_le] at *
        have hw1 := w64 (n := i + 1) (by omega)
        refine ⟨i + 1, by rw [hw1], by trivial, ⟨by omega, by omega, ?_⟩, by omega⟩
        rw [show (i + 1).toNat = i.toNat + 1 by omega]
        exact take_good hx hi2 h
      · conv => whnf
        try simp only [decide_eq_true_eq, decide_eq_false_iff_not, Bool.not_eq_true', Bool.not_eq_false', List.length_map, Int.not_lt, Int.not_le, Decidable.not_not, gt_iff_lt, ge_iff_le] at *
        rw [goodA_yes (by omega)]
        have : a.l.take i.toNat = a.l := List.take_of_length_le (by omega)
        rwa [this] at hi2
  all_goals conv => whnf
  all_goals try simp only [decide_eq_true_eq, decide_eq_false_iff_not, Bool.not_eq_true', Bool.not_eq_false', List.length_map, Int.not_lt, Int.not_le, Decidable.not_not, gt_iff_lt, ge_iff_le] at *
  · rw [goodA_bad (by omega)]
  · rw [goodA_bad (by omega)]
  · rw [goodA_bad (by omega)]
  · rw [goodA_bad (by omega)]
  · have hm := mulb (r := a.rows) (c := a.cols) (by omega) (by omega) (by omega) (by omega)
    rw [w64 (by omega)] at h
    rw [goodA_bad (by omega)]
end Go.Proofs.YtnpcmgajplikbaaGreatDoor

/- One value of an area, whole numbers. -/
set_option maxRecDepth 100000
set_option linter.all false
namespace Go.Proofs.YtnpcmgajplikbaaGreatDoor
open Ab R
def oneS (a : Ar) : GV := if a.l.length = 1 ∧ goodA a = true then a.l.headD ⟨0, 0, e0⟩ else badS 2
theorem maths_One (a : Ar) : Ret Tryz.prog F_maths_One [eA a] (eV (oneS a)) := by
  refine r_maths_One rfl fun hw => ?_
  clear hw
  repeat' ((conv => whnf); (first | refine csp (fun h => ?_) (fun h => ?_) | refine cll (maths_Good _) (fun _ => ?_) | refine cll (value_Bad _) (fun _ => ?_) | (refine sda ?_ ?_; (focus (first | rfl | (simp; done)))) | refine sda ?_ ?_ | refine conk rfl ?_ | refine ldk rfl ?_ | refine mapk (fun x hx => ?_) | intro hl))
  all_goals conv => whnf
  all_goals try simp only [decide_eq_true_eq, decide_eq_false_iff_not, Bool.not_eq_true', Bool.not_eq_false', List.length_map, Int.not_lt, Int.not_le, Decidable.not_not, gt_iff_lt, ge_iff_le] at *
  · rw [oneS, if_neg (fun q => by omega)]
  · rw [oneS, if_neg (by rw [h]; simp)]
  · omega
  · obtain ⟨r, c, l, m⟩ := a
    cases l with
    | nil => cases hx
    | cons y l =>
      cases hx
      rw [oneS, if_pos ⟨by omega, h⟩]
      rfl
def wholeS (n : Int) : Int × Bool := if goodN n = true ∧ n.tmod 10000 = 0 then (n.tdiv 10000, true) else (0, false)
theorem tdivb {n : Int} (h : goodN n = true) : -10000000 ≤ n.tdiv 10000 ∧ n.tdiv 10000 ≤ 10000000 := by
  simp only [goodN, decide_eq_true_eq] at h
  rw [Int.tdiv_eq_ediv]
  split
  · omega
  · simp only [show Int.sign 10000 = 1 from rfl]
    omega
theorem num_Whole (n : Int) : Ret Tryz.prog F_num_Whole [.int .i64 n] (.tup [.int .i64 (wholeS n).1, .bool (wholeS n).2]) := by
  refine r_num_Whole rfl fun hw => ?_
  clear hw
  repeat' ((conv => whnf); (first | refine csp (fun h => ?_) (fun h => ?_) | refine cll (num_Good _) (fun _ => ?_) | (refine sda ?_ ?_; (focus (first | rfl | (simp; done)))) | refine sda ?_ ?_ | refine conk rfl ?_ | refine ldk rfl ?_ | refine mapk (fun x hx => ?_) | intro hl))
  all_goals conv => whnf
  all_goals try simp only [decide_eq_true_eq, decide_eq_false_iff_not, Bool.not_eq_true', Bool.not_eq_false', List.length_map, Int.not_lt, Int.not_le, Decidable.not_not, gt_iff_lt, ge_iff_le] at *
  · rw [wholeS, if_neg (by simp [h])]
  · rw [wholeS, if_neg (fun q => h q.2)]
  · have h1 : goodN n = true := by assumption
    have := tdivb h1
    rw [wholeS, if_pos ⟨h1, h⟩, w64 (by omega)]
theorem goodA_out {a : Ar} (h : goodA a = true) : (1 ≤ a.rows ∧ 1 ≤ a.cols ∧ a.rows ≤ 4096 ∧ a.cols ≤ 4096 ∧ (a.l.length : Int) = a.rows * a.cols) ∧ a.l.all goodV = true := by
  unfold goodA at h
  simp only [Bool.and_eq_true, decide_eq_true_eq] at h
  exact h
theorem bytesb {a b : Nat} (h1 : a ≤ 11) (h2 : Nat.ble b 1000 = true) : Nat.le (a * b) 140737488355327 := by
  have := Nat.le_of_ble_eq_true h2
  have := Nat.mul_le_mul h1 this
  show a * b ≤ 140737488355327
  omega
end Go.Proofs.YtnpcmgajplikbaaGreatDoor

/- Values with texts: what they are turned into, out of the walks. -/
set_option maxRecDepth 100000
set_option linter.all false
namespace Go.Proofs.YtnpcmgajplikbaaGreatDoor
open Ab R
theorem goodV_size {v : GV} (h : goodV v = true) : v.s.size ≤ 255 := by
  unfold goodV at h
  split at h
  · simp only [decide_eq_true_eq] at h; rw [h.2]; decide
  · split at h
    · simp only [Bool.and_eq_true, decide_eq_true_eq] at h; rw [h.2]; decide
    · split at h
      · simp only [decide_eq_true_eq] at h; exact h.2
      · split at h
        · simp only [decide_eq_true_eq] at h; rw [h.2]; decide
        · split at h
          · simp only [decide_eq_true_eq] at h; rw [h.2.2]; decide
          · cases h
theorem goodV_bad (n : Int) : goodV (badS n) = true := by
  unfold goodV badS
  simp
  split <;> omega
theorem oneS_good (a : Ar) : goodV (oneS a) = true := by
  unfold oneS
  split
  · rename_i h
    obtain ⟨h1, h2⟩ := h
    have h3 := (goodA_out h2).2
    match hl : a.l, h1 with
    | [x], _ => rw [hl] at h3; simpa using h3
  · exact goodV_bad 2
theorem prs_good (s : ByteArray) : -100000000000 ≤ (Vl.tnum 2 0 s).1 ∧ (Vl.tnum 2 0 s).1 ≤ 100000000000 := by
  have out_b : ∀ n : Int, -100000000000 ≤ (Nm.out n).1 ∧ (Nm.out n).1 ≤ 100000000000 := fun n => by
    unfold Nm.out
    split
    · rename_i h; exact h
    · simp
  have fin_b : ∀ b W R p, -100000000000 ≤ (Nm.fin b W R p).1 ∧ (Nm.fin b W R p).1 ≤ 100000000000 := fun b W R p => by
    unfold Nm.fin
    split
    · exact out_b _
    · simp
  have : -100000000000 ≤ (Nm.prs s).1 ∧ (Nm.prs s).1 ≤ 100000000000 := by
    unfold Nm.prs
    split
    · exact fin_b _ _ _ _
    · exact fin_b _ _ _ _
  show -100000000000 ≤ (if (Nm.prs s).2 = true then ((Nm.prs s).1, 0) else (0, 2) : Int × Int).1 ∧ (if (Nm.prs s).2 = true then ((Nm.prs s).1, 0) else (0, 2) : Int × Int).1 ≤ 100000000000
  split
  · exact this
  · simp
/-- A value's number, or its error. -/
abbrev tn (v : GV) : Int × Int := Vl.tnum v.k v.n v.s
theorem tn_good {v : GV} (h : goodV v = true) : goodN (tn v).1 = true ∧ 0 ≤ (tn v).2 ∧ (tn v).2 ≤ 8 ∧ ((tn v).2 ≠ 0 → (tn v).1 = 0) := by
  obtain ⟨k, n, s⟩ := v
  have hp := prs_good s
  unfold goodV at h
  simp only [tn, Vl.tnum] at *
  by_cases h0 : k = 0
  · subst h0
    simp [goodN]
  by_cases h1 : k = 1
  · subst h1
    simp at h ⊢
    exact h.1
  by_cases h3 : k = 3
  · subst h3
    simp only [if_neg h0, if_neg h1]
    simp
    split <;> simp [goodN]
  by_cases h2 : k = 2
  · subst h2
    simp only [if_neg h0, if_neg h1, if_neg h3] at *
    simp at hp ⊢
    split
    · rename_i hh
      rw [if_pos hh] at hp
      simpa [goodN] using hp
    · simp [goodN]
  by_cases h4 : k = 4
  · subst h4
    simp at h ⊢
    simp [goodN]
    omega
  simp [h0, h1, h2, h3, h4] at h
theorem ToNum_g (v : GV) (h : goodV v = true) : Ret Tryz.prog F_value_ToNum [eV v] (.tup [.int .i64 (tn v).1, .int .i64 (tn v).2]) := by
  have hs := goodV_size h
  obtain ⟨b1, b2, b3, _⟩ := tn_good h
  simp only [goodN, decide_eq_true_eq] at b1
  exact c_value_ToNum v.k v.n v.s (tn v).1 (tn v).2 (Vl.ToNum_is (by omega)) (w64 (by omega)) (w64 (by omega))
/-- A value's text, or its error. -/
noncomputable abbrev tx (v : GV) : ByteArray × Int := Vl.ttxt v.k v.n v.s
theorem tx_good {v : GV} (h : goodV v = true) : (tx v).1.size ≤ 255 ∧ 0 ≤ (tx v).2 ∧ (tx v).2 ≤ 8 := by
  have hs := goodV_size h
  obtain ⟨k, n, s⟩ := v
  unfold goodV at h
  simp only [tx, Vl.ttxt, Vl.txt] at *
  by_cases h0 : k = 0
  · subst h0; simp; decide
  by_cases h1 : k = 1
  · subst h1
    simp at h ⊢
    have hg := h.1
    simp only [goodN, decide_eq_true_eq] at hg
    have := Vl.prt_sz (n := n) (by omega) (by omega)
    omega
  by_cases h2 : k = 2
  · subst h2; simp; exact hs
  by_cases h3 : k = 3
  · subst h3; simp; split <;> decide
  by_cases h4 : k = 4
  · subst h4; simp at h ⊢; exact ⟨by decide, by omega, by omega⟩
  simp [h0, h1, h2, h3, h4] at h
theorem goodV_n {v : GV} (h : goodV v = true) : -100000000000 ≤ v.n ∧ v.n ≤ 100000000000 := by
  unfold goodV at h
  split at h
  · simp only [decide_eq_true_eq] at h; omega
  · split at h
    · simp only [Bool.and_eq_true, goodN, decide_eq_true_eq] at h; exact h.1
    · split at h
      · simp only [decide_eq_true_eq] at h; omega
      · split at h
        · simp only [decide_eq_true_eq] at h; omega
        · split at h
          · simp only [decide_eq_true_eq] at h; omega
          · cases h
theorem ToText_g (v : GV) (h : goodV v = true) : Ret Tryz.prog F_value_ToText [eV v] (.tup [.str (tx v).1, .int .i64 (tx v).2]) := by
  have hs := goodV_n h
  obtain ⟨b1, b2, b3⟩ := tx_good h
  exact c_value_ToText v.k v.n v.s (tx v).1 (tx v).2 (Vl.ToText_is (by omega) (by omega)) (by omega) (w64 (by omega))
end Go.Proofs.YtnpcmgajplikbaaGreatDoor

/- Layer 17: arguments as numbers. -/
set_option maxRecDepth 100000
set_option linter.all false
namespace Go.Proofs.YtnpcmgajplikbaaGreatDoor
open Ab R
abbrev cT (b : Bool) : List V := [.bool b]
abbrev cI (n : Int) : List V := [.int .i64 n]
theorem foldT {α β : Type} {f : β → α → β} {b : β} {l : List α} {i : Nat} {x : α} (hx : l[i]? = some x) : (l.take (i + 1)).foldl f b = f ((l.take i).foldl f b) x := by
  rw [List.take_add_one, hx]
  simp [List.foldl_append]
theorem foldD {α β : Type} {f : β → α → β} {b : β} {l : List α} {i : Nat} {x : α} (hx : l[i]? = some x) : l.foldl f b = (l.drop (i + 1)).foldl f (f ((l.take i).foldl f b) x) := by
  conv => lhs; rw [← List.take_append_drop (i + 1) l]
  rw [List.foldl_append, foldT hx]
/-- Arguments as numbers (where it is said, whole ones), or the first error. -/
def stN (st : List Int × Int) (p : Ar × Bool) : List Int × Int :=
  if st.2 ≠ 0 then st else if 0 < (tn (oneS p.1)).2 then ([], (tn (oneS p.1)).2) else if p.2 = true then (if (wholeS (tn (oneS p.1)).1).2 = true then (st.1 ++ [(wholeS (tn (oneS p.1)).1).1], 0) else ([], 5)) else (st.1 ++ [(tn (oneS p.1)).1], 0)
def nmS (l : List Ar) (ws : List Bool) : List Int × Int := (l.zip ws).foldl stN ([], 0)
theorem stN_err : ∀ (l : List (Ar × Bool)) (st : List Int × Int), st.2 ≠ 0 → l.foldl stN st = st
  | [], _, _ => rfl
  | v :: l, st, h => by rw [List.foldl_cons, stN, if_pos h]; exact stN_err l st h
theorem zip_at {l : List Ar} {ws : List Bool} {n : Nat} {x : Ar} {b : Bool} (h1 : l[n]? = some x) (h2 : ws[n]? = some b) : (l.zip ws)[n]? = some (x, b) := by
  rw [List.getElem?_zip_eq_some]
  exact ⟨h1, h2⟩
theorem nmS_err {l : List Ar} {ws : List Bool} {n : Nat} {x : Ar} {b : Bool} (hx : l[n]? = some x) (hb : ws[n]? = some b) (he : (stN (((l.zip ws).take n).foldl stN ([], 0)) (x, b)).2 ≠ 0) : nmS l ws = stN (((l.zip ws).take n).foldl stN ([], 0)) (x, b) := by
  rw [nmS, foldD (zip_at hx hb)]
  exact stN_err _ _ he
theorem numbers_far (l : List Ar) (ws : List Bool) (hl : l.length ≠ ws.length) : Ret Tryz.prog F_maths_numbers [.row false (l.map cA), .row false (ws.map cT)] (.tup [.row false [], eV (badS 2), .bool false]) := by
  refine r_maths_numbers rfl fun hw => ?_
  clear hw
  repeat' ((conv => whnf); (first | refine csp (fun h => ?_) (fun h => ?_) | refine cll (value_Bad _) (fun _ => ?_) | (refine sda ?_ ?_; (focus (first | rfl | (simp; done)))) | refine sda ?_ ?_ | refine conk rfl ?_ | refine ldk rfl ?_ | refine mapk (fun x hx => ?_) | intro hl))
  all_goals conv => whnf
  all_goals try simp only [decide_eq_true_eq, decide_eq_false_iff_not, Bool.not_eq_true', Bool.not_eq_false', List.length_map, Int.not_lt, Int.not_le, Decidable.not_not, gt_iff_lt, ge_iff_le] at *
  exfalso
  omega
theorem numbers_r (l : List Ar) (ws : List Bool) (hl : l.length = ws.length) (hs : l.length ≤ 10) : Ret Tryz.prog F_maths_numbers [.row false (l.map cA), .row false (ws.map cT)] (.tup [.row false ((nmS l ws).1.map cI), eV (if (nmS l ws).2 = 0 then ⟨0, 0, e0⟩ else badS (nmS l ws).2), .bool (decide ((nmS l ws).2 = 0))]) := by
  refine r_maths_numbers rfl fun hw => ?_
  clear hw
  repeat' ((conv => whnf); (first | refine csp (fun h => ?_) (fun h => ?_) | refine cll (value_Bad _) (fun _ => ?_) | (refine sda ?_ ?_; (focus (first | rfl | (simp; done)))) | refine sda ?_ ?_ | refine conk rfl ?_ | refine ldk rfl ?_ | refine mapk (fun x hx => ?_) | intro hl))
  · conv => whnf
    try simp only [decide_eq_true_eq, decide_eq_false_iff_not, Bool.not_eq_true', Bool.not_eq_false', List.length_map, Int.not_lt, Int.not_le, Decidable.not_not, gt_iff_lt, ge_iff_le] at *
    exfalso
    omega
  refine ⟨Nat, [1, 5, 7, 20, 21, 22], [0, 3], fun n => [(1, .row false (ws.map cT)), (5, .ptr 0 0), (7, match n with | 0 => .row true [] | n + 1 => .sl 1 0 (n + 1)), (20, .row false (l.map cA)), (21, .int .i64 (l.map cA).length), (22, .int .i64 n)], fun n => [.box true (cV ⟨0, 0, e0⟩), match n with | 0 => .gone | n + 1 => .arr true 1 ((((l.zip ws).take (n + 1)).foldl stN ([], 0)).1.map cI)], fun n => n ≤ l.length ∧ (((l.zip ws).take n).foldl stN ([], 0)).2 = 0 ∧ (((l.zip ws).take n).foldl stN ([], 0)).1.length = n, fun n => l.length - n, rfl, ?_, fun n hn => ?_⟩
  · exact ⟨0, rfl, rfl, Nat.zero_le _, rfl, rfl⟩
  · obtain ⟨hn1, hn2, hn3⟩ := hn
    cases n with
    | zero =>
      repeat' ((conv => whnf); (first | refine csp (fun h => ?_) (fun h => ?_) | refine cll (maths_One _) (fun _ => ?_) | refine cll (ToNum_g _ (oneS_good _)) (fun _ => ?_) | refine cll (num_Whole _) (fun _ => ?_) | refine cll (value_Bad _) (fun _ => ?_) | (refine sda ?_ ?_; (focus (first | rfl | (simp; done)))) | refine sda ?_ ?_ | refine conk rfl ?_ | refine ldk rfl ?_ | refine mapk (fun x hx => ?_) | intro hl))
      all_goals conv => whnf
      all_goals try simp only [decide_eq_true_eq, decide_eq_false_iff_not, Bool.not_eq_true', Bool.not_eq_false', List.length_map, Int.not_lt, Int.not_le, Decidable.not_not, gt_iff_lt, ge_iff_le] at *
      · omega
      · rename Ar => y
        rename l[_]? = some y => hy
        have hy' : l[0]? = some y := hy
        obtain ⟨b, hb⟩ : ∃ b, ws[0]? = some b := ⟨_, List.getElem?_eq_getElem (by omega)⟩
        have e : stN (((l.zip ws).take (0)).foldl stN ([], 0)) (y, b) = ([], (tn (oneS y)).2) := by rw [stN, if_neg (by rw [hn2]; simp), if_pos h]
        have e2 := nmS_err hy' hb (by rw [e]; simp only; omega)
        rw [e2, e, if_neg (by simp only; omega), decide_eq_false (by simp only; omega)]
        rfl
      · omega
      · rename Ar => y
        rename l[_]? = some y => hy
        have hy' : l[0]? = some y := hy
        rename Bool => b
        rename ws[_]? = some b => hb
        have hb' : ws[0]? = some b := hb
        rename b = true => hbt
        have e : stN (((l.zip ws).take (0)).foldl stN ([], 0)) (y, b) = ([], 5) := by rw [stN, if_neg (by rw [hn2]; simp), if_neg (by simp only; omega), if_pos hbt, if_neg (by simp [h])]
        have e2 := nmS_err hy' hb' (by rw [e]; simp)
        rw [e2, e]
        rfl
      · rename Ar => y
        rename _ ∈ setAt _ _ _ => hm
        have hm : _ ∈ [cI (wholeS (tn (oneS y)).1).1] := hm
        rw [List.mem_singleton.1 hm]
        rfl
      · exact Nat.le_of_ble_eq_true (by kernel_rfl)
      · rename Ar => y
        rename l[_]? = some y => hy
        have hy' : l[0]? = some y := hy
        rename Bool => b
        rename ws[_]? = some b => hb
        have hb' : ws[0]? = some b := hb
        rename b = true => hbt
        have e : stN (((l.zip ws).take (0)).foldl stN ([], 0)) (y, b) = ((((l.zip ws).take (0)).foldl stN ([], 0)).1 ++ [(wholeS (tn (oneS y)).1).1], 0) := by rw [stN, if_neg (by rw [hn2]; simp), if_neg (by simp only; omega), if_pos hbt, if_pos (by assumption)]
        have e1 : ((l.zip ws).take (0 + 1)).foldl stN ([], 0) = ((((l.zip ws).take (0)).foldl stN ([], 0)).1 ++ [(wholeS (tn (oneS y)).1).1], 0) := by rw [foldT (zip_at hy' hb'), e]
        refine ⟨1, rfl, ?_, ⟨by omega, by rw [e1], by rw [e1]; rfl⟩, by omega⟩
        show [O.box true (cV ⟨0, 0, e0⟩), O.arr true 1 [cI (wholeS (tn (oneS y)).1).1]] = [O.box true (cV ⟨0, 0, e0⟩), O.arr true 1 ((((l.zip ws).take 1).foldl stN ([], 0)).1.map cI)]
        rw [e1]
        rfl
      · rename Ar => y
        rename _ ∈ setAt _ _ _ => hm
        have hm : _ ∈ [cI (tn (oneS y)).1] := hm
        rw [List.mem_singleton.1 hm]
        rfl
      · exact Nat.le_of_ble_eq_true (by kernel_rfl)
      · rename Ar => y
        rename l[_]? = some y => hy
        have hy' : l[0]? = some y := hy
        rename Bool => b
        rename ws[_]? = some b => hb
        have hb' : ws[0]? = some b := hb
        rename b = false => hbt
        have e : stN (((l.zip ws).take (0)).foldl stN ([], 0)) (y, b) = ((((l.zip ws).take (0)).foldl stN ([], 0)).1 ++ [(tn (oneS y)).1], 0) := by rw [stN, if_neg (by rw [hn2]; simp), if_neg (by simp only; omega), if_neg (by rw [hbt]; simp)]
        have e1 : ((l.zip ws).take (0 + 1)).foldl stN ([], 0) = ((((l.zip ws).take (0)).foldl stN ([], 0)).1 ++ [(tn (oneS y)).1], 0) := by rw [foldT (zip_at hy' hb'), e]
        refine ⟨1, rfl, ?_, ⟨by omega, by rw [e1], by rw [e1]; rfl⟩, by omega⟩
        show [O.box true (cV ⟨0, 0, e0⟩), O.arr true 1 [cI (tn (oneS y)).1]] = [O.box true (cV ⟨0, 0, e0⟩), O.arr true 1 ((((l.zip ws).take 1).foldl stN ([], 0)).1.map cI)]
        rw [e1]
        rfl
      · obtain rfl : l = [] := List.eq_nil_of_length_eq_zero (by omega)
        rfl
    | succ n =>
      repeat' ((conv => whnf); (first | refine csp (fun h => ?_) (fun h => ?_) | refine cll (maths_One _) (fun _ => ?_) | refine cll (ToNum_g _ (oneS_good _)) (fun _ => ?_) | refine cll (num_Whole _) (fun _ => ?_) | refine cll (value_Bad _) (fun _ => ?_) | (refine sda ?_ ?_; (focus (first | rfl | (simp; done)))) | refine sda ?_ ?_ | refine conk rfl ?_ | refine ldk rfl ?_ | refine mapk (fun x hx => ?_) | intro hl))
      all_goals conv => whnf
      all_goals try simp only [decide_eq_true_eq, decide_eq_false_iff_not, Bool.not_eq_true', Bool.not_eq_false', List.length_map, Int.not_lt, Int.not_le, Decidable.not_not, gt_iff_lt, ge_iff_le] at *
      · omega
      · rename Ar => y
        rename l[_]? = some y => hy
        have hy' : l[n + 1]? = some y := hy
        obtain ⟨b, hb⟩ : ∃ b, ws[n + 1]? = some b := ⟨_, List.getElem?_eq_getElem (by omega)⟩
        have e : stN (((l.zip ws).take (n + 1)).foldl stN ([], 0)) (y, b) = ([], (tn (oneS y)).2) := by rw [stN, if_neg (by rw [hn2]; simp), if_pos h]
        have e2 := nmS_err hy' hb (by rw [e]; simp only; omega)
        rw [e2, e, if_neg (by simp only; omega), decide_eq_false (by simp only; omega)]
        rfl
      · omega
      · rename Ar => y
        rename l[_]? = some y => hy
        have hy' : l[n + 1]? = some y := hy
        rename Bool => b
        rename ws[_]? = some b => hb
        have hb' : ws[n + 1]? = some b := hb
        rename b = true => hbt
        have e : stN (((l.zip ws).take (n + 1)).foldl stN ([], 0)) (y, b) = ([], 5) := by rw [stN, if_neg (by rw [hn2]; simp), if_neg (by simp only; omega), if_pos hbt, if_neg (by simp [h])]
        have e2 := nmS_err hy' hb' (by rw [e]; simp)
        rw [e2, e]
        rfl
      · exact hn3.symm
      · rename Ar => y
        rename _ ∈ setAt _ _ _ => hm
        have hm : _ ∈ [cI (wholeS (tn (oneS y)).1).1] := hm
        rw [List.mem_singleton.1 hm]
        rfl
      · rename Ar => y
        rename _ ∈ setAt _ _ _ => hm
        have hm : _ ∈ [cI (wholeS (tn (oneS y)).1).1] := hm
        rename V => c
        rename c ∈ _ => hc
        rw [List.mem_singleton.1 hm] at hc
        rw [List.mem_singleton.1 hc]
        rfl
      · refine bytesb ?_ (by kernel_rfl)
        show (((l.zip ws).take (n + 1)).foldl stN ([], 0)).1.length + 1 ≤ 11
        omega
      · rename Ar => y
        rename l[_]? = some y => hy
        have hy' : l[n + 1]? = some y := hy
        rename Bool => b
        rename ws[_]? = some b => hb
        have hb' : ws[n + 1]? = some b := hb
        rename b = true => hbt
        have e : stN (((l.zip ws).take (n + 1)).foldl stN ([], 0)) (y, b) = ((((l.zip ws).take (n + 1)).foldl stN ([], 0)).1 ++ [(wholeS (tn (oneS y)).1).1], 0) := by rw [stN, if_neg (by rw [hn2]; simp), if_neg (by simp only; omega), if_pos hbt, if_pos (by assumption)]
        have e1 : ((l.zip ws).take (n + 1 + 1)).foldl stN ([], 0) = ((((l.zip ws).take (n + 1)).foldl stN ([], 0)).1 ++ [(wholeS (tn (oneS y)).1).1], 0) := by rw [foldT (zip_at hy' hb'), e]
        refine ⟨n + 2, ?_, ?_, ⟨by omega, by rw [e1], by rw [e1]; simp only [List.length_append, List.length_cons, List.length_nil]; omega⟩, by omega⟩
        · show [(1, V.row false (ws.map cT)), (5, V.ptr 0 0), (7, V.sl 1 0 ((((l.zip ws).take (n + 1)).foldl stN ([], 0)).1.length + 1)), (20, V.row false (l.map cA)), (21, V.int IntKind.i64 l.length), (22, V.int IntKind.i64 (IntKind.i64.wrap (((n + 1 : Nat) : Int) + 1)))] = [(1, V.row false (ws.map cT)), (5, V.ptr 0 0), (7, V.sl 1 0 (n + 1 + 1)), (20, V.row false (l.map cA)), (21, V.int IntKind.i64 l.length), (22, V.int IntKind.i64 ((n + 1 + 1 : Nat) : Int))]
          rw [hn3, w64 (by omega)]
          rfl
        · show [O.box true (cV ⟨0, 0, e0⟩), O.arr true 1 ((((l.zip ws).take (n + 1)).foldl stN ([], 0)).1.map cI ++ [cI (wholeS (tn (oneS y)).1).1])] = [O.box true (cV ⟨0, 0, e0⟩), O.arr true 1 ((((l.zip ws).take (n + 1 + 1)).foldl stN ([], 0)).1.map cI)]
          rw [e1, List.map_append]
          rfl
      · exact hn3.symm
      · rename Ar => y
        rename _ ∈ setAt _ _ _ => hm
        have hm : _ ∈ [cI (tn (oneS y)).1] := hm
        rw [List.mem_singleton.1 hm]
        rfl
      · rename Ar => y
        rename _ ∈ setAt _ _ _ => hm
        have hm : _ ∈ [cI (tn (oneS y)).1] := hm
        rename V => c
        rename c ∈ _ => hc
        rw [List.mem_singleton.1 hm] at hc
        rw [List.mem_singleton.1 hc]
        rfl
      · refine bytesb ?_ (by kernel_rfl)
        show (((l.zip ws).take (n + 1)).foldl stN ([], 0)).1.length + 1 ≤ 11
        omega
      · rename Ar => y
        rename l[_]? = some y => hy
        have hy' : l[n + 1]? = some y := hy
        rename Bool => b
        rename ws[_]? = some b => hb
        have hb' : ws[n + 1]? = some b := hb
        rename b = false => hbt
        have e : stN (((l.zip ws).take (n + 1)).foldl stN ([], 0)) (y, b) = ((((l.zip ws).take (n + 1)).foldl stN ([], 0)).1 ++ [(tn (oneS y)).1], 0) := by rw [stN, if_neg (by rw [hn2]; simp), if_neg (by simp only; omega), if_neg (by rw [hbt]; simp)]
        have e1 : ((l.zip ws).take (n + 1 + 1)).foldl stN ([], 0) = ((((l.zip ws).take (n + 1)).foldl stN ([], 0)).1 ++ [(tn (oneS y)).1], 0) := by rw [foldT (zip_at hy' hb'), e]
        refine ⟨n + 2, ?_, ?_, ⟨by omega, by rw [e1], by rw [e1]; simp only [List.length_append, List.length_cons, List.length_nil]; omega⟩, by omega⟩
        · show [(1, V.row false (ws.map cT)), (5, V.ptr 0 0), (7, V.sl 1 0 ((((l.zip ws).take (n + 1)).foldl stN ([], 0)).1.length + 1)), (20, V.row false (l.map cA)), (21, V.int IntKind.i64 l.length), (22, V.int IntKind.i64 (IntKind.i64.wrap (((n + 1 : Nat) : Int) + 1)))] = [(1, V.row false (ws.map cT)), (5, V.ptr 0 0), (7, V.sl 1 0 (n + 1 + 1)), (20, V.row false (l.map cA)), (21, V.int IntKind.i64 l.length), (22, V.int IntKind.i64 ((n + 1 + 1 : Nat) : Int))]
          rw [hn3, w64 (by omega)]
          rfl
        · show [O.box true (cV ⟨0, 0, e0⟩), O.arr true 1 ((((l.zip ws).take (n + 1)).foldl stN ([], 0)).1.map cI ++ [cI (tn (oneS y)).1])] = [O.box true (cV ⟨0, 0, e0⟩), O.arr true 1 ((((l.zip ws).take (n + 1 + 1)).foldl stN ([], 0)).1.map cI)]
          rw [e1, List.map_append]
          rfl
      · have h1 : (l.zip ws).take (n + 1) = l.zip ws := List.take_of_length_le (by rw [List.length_zip]; omega)
        rw [h1] at hn2 hn3 ⊢
        have e : (nmS l ws).2 = 0 := hn2
        rw [List.drop_zero, List.take_of_length_le (by rw [List.length_map]; omega), e, if_pos rfl]
        rfl
end Go.Proofs.YtnpcmgajplikbaaGreatDoor

/- Layer 17: functions of numbers. -/
set_option maxRecDepth 100000
set_option linter.all false
namespace Go.Proofs.YtnpcmgajplikbaaGreatDoor
open Ab R
/-- What a function of numbers answers of arguments. -/
def ofN (ws : List Bool) (q : List Int → GV) (l : List Ar) : GV := if l.length = ws.length then (if (nmS l ws).2 = 0 then q (nmS l ws).1 else badS (nmS l ws).2) else badS 2
theorem stN_ok : ∀ (l : List (Ar × Bool)) (st : List Int × Int), (∀ x ∈ st.1, goodN x = true) → (∀ x ∈ (l.foldl stN st).1, goodN x = true)
  | [], _, h => h
  | p :: l, st, h => by
    rw [List.foldl_cons]
    refine stN_ok l _ ?_
    have hg := tn_good (oneS_good p.1)
    unfold stN
    split
    · exact h
    · split
      · simp
      · split
        · split
          · intro x hx
            rcases List.mem_append.1 hx with hx | hx
            · exact h x hx
            · rw [List.mem_singleton.1 hx]
              have := tdivb hg.1
              unfold wholeS
              split
              · simp only [goodN, decide_eq_true_eq]; omega
              · decide
          · simp
        · intro x hx
          rcases List.mem_append.1 hx with hx | hx
          · exact h x hx
          · rw [List.mem_singleton.1 hx]
            exact hg.1
theorem nmS_ok (l : List Ar) (ws : List Bool) : ∀ x ∈ (nmS l ws).1, goodN x = true := stN_ok _ _ (by simp)
theorem stN_len : ∀ (l : List (Ar × Bool)) (acc : List Int), (l.foldl stN (acc, 0)).2 = 0 → (l.foldl stN (acc, 0)).1.length = acc.length + l.length
  | [], acc, _ => rfl
  | p :: l, acc, h => by
    have hg := tn_good (oneS_good p.1)
    rw [List.foldl_cons, stN, if_neg (by simp)] at h ⊢
    split at h
    · rw [stN_err _ _ (by simp only; omega)] at h
      simp only at h
      omega
    · rename_i h1
      rw [if_neg h1]
      split at h
      · rename_i h2
        rw [if_pos h2]
        split at h
        · rename_i h3
          rw [if_pos h3, stN_len l _ h, List.length_append, List.length_cons, List.length_cons, List.length_nil]
          simp only
          omega
        · rw [stN_err _ _ (by simp)] at h
          simp at h
      · rename_i h2
        rw [if_neg h2, stN_len l _ h, List.length_append, List.length_cons, List.length_cons, List.length_nil]
        simp only
        omega
theorem nmS_len {l : List Ar} {ws : List Bool} (hl : l.length = ws.length) (h : (nmS l ws).2 = 0) : (nmS l ws).1.length = ws.length := by
  have := stN_len (l.zip ws) [] h
  rw [nmS, this, List.length_zip]
  simp only [List.length_nil]
  omega
theorem of_0 (g : FuncId) (ws : List Bool) : Ret Tryz.prog F_maths_of [.fn g [] [], .row false (ws.map cT)] (.fn F_maths_of_1 [] [.elem [.row false (ws.map cT)], .elem [.fn g [] []]]) := by
  refine r_maths_of rfl fun hw => ?_
  clear hw
  repeat' ((conv => whnf); (first | refine csp (fun h => ?_) (fun h => ?_) | (refine sda ?_ ?_; (focus (first | rfl | (simp; done)))) | refine sda ?_ ?_ | refine conk rfl ?_ | refine ldk rfl ?_ | refine mapk (fun x hx => ?_) | intro hl))
  all_goals conv => whnf
theorem of1_0 (g : FuncId) (ws : List Bool) (q : List Int → GV) (hws : ws.length ≤ 10) (hq : ∀ ns : List Int, ns.length = ws.length → (∀ x ∈ ns, goodN x = true) → Ret Tryz.prog g [.row false (ns.map cI)] (eV (q ns))) (l : List Ar) :
    Ret Tryz.prog F_maths_of_1 [.row false (l.map cA), .elem [.row false (ws.map cT)], .elem [.fn g [] []]] (eV (ofN ws q l)) := by
  refine r_maths_of_1 rfl fun hw => ?_
  clear hw
  by_cases hl : l.length = ws.length
  · have hn := numbers_r l ws hl (by omega)
    by_cases h0 : (nmS l ws).2 = 0
    · have hq1 := hq (nmS l ws).1 (nmS_len hl h0) (nmS_ok l ws)
      rw [if_pos h0, decide_eq_true h0] at hn
      repeat' ((conv => whnf); (first | refine csp (fun h => ?_) (fun h => ?_) | refine cll (hn) (fun _ => ?_) | refine cll (hq1) (fun _ => ?_) | (refine sda ?_ ?_; (focus (first | rfl | (simp; done)))) | refine sda ?_ ?_ | refine conk rfl ?_ | refine ldk rfl ?_ | refine mapk (fun x hx => ?_) | intro hl))
      all_goals conv => whnf
      rw [ofN, if_pos hl, if_pos h0]
    · rw [if_neg h0, decide_eq_false h0] at hn
      repeat' ((conv => whnf); (first | refine csp (fun h => ?_) (fun h => ?_) | refine cll (hn) (fun _ => ?_) | (refine sda ?_ ?_; (focus (first | rfl | (simp; done)))) | refine sda ?_ ?_ | refine conk rfl ?_ | refine ldk rfl ?_ | refine mapk (fun x hx => ?_) | intro hl))
      all_goals conv => whnf
      rw [ofN, if_pos hl, if_neg h0]
  · have hn := numbers_far l ws hl
    repeat' ((conv => whnf); (first | refine csp (fun h => ?_) (fun h => ?_) | refine cll (hn) (fun _ => ?_) | (refine sda ?_ ?_; (focus (first | rfl | (simp; done)))) | refine sda ?_ ?_ | refine conk rfl ?_ | refine ldk rfl ?_ | refine mapk (fun x hx => ?_) | intro hl))
    all_goals conv => whnf
    rw [ofN, if_neg hl]
theorem of_P (g : FuncId) (ws : List Bool) : Ret Tryz.prog F_maths_of [.fn F_maths_plain_1 [] [.elem [.fn g [] []]], .row false (ws.map cT)] (.fn F_maths_of_1 [] [.elem [.row false (ws.map cT)], .elem [.fn F_maths_plain_1 [] [.elem [.fn g [] []]]]]) := by
  refine r_maths_of rfl fun hw => ?_
  clear hw
  repeat' ((conv => whnf); (first | refine csp (fun h => ?_) (fun h => ?_) | (refine sda ?_ ?_; (focus (first | rfl | (simp; done)))) | refine sda ?_ ?_ | refine conk rfl ?_ | refine ldk rfl ?_ | refine mapk (fun x hx => ?_) | intro hl))
  all_goals conv => whnf
theorem of_R (k : Int) (ws : List Bool) : Ret Tryz.prog F_maths_of [.fn F_maths_rounds_1 [] [.elem [.int .i64 k]], .row false (ws.map cT)] (.fn F_maths_of_1 [] [.elem [.row false (ws.map cT)], .elem [.fn F_maths_rounds_1 [] [.elem [.int .i64 k]]]]) := by
  refine r_maths_of rfl fun hw => ?_
  clear hw
  repeat' ((conv => whnf); (first | refine csp (fun h => ?_) (fun h => ?_) | (refine sda ?_ ?_; (focus (first | rfl | (simp; done)))) | refine sda ?_ ?_ | refine conk rfl ?_ | refine ldk rfl ?_ | refine mapk (fun x hx => ?_) | intro hl))
  all_goals conv => whnf
theorem of1_R (k : Int) (ws : List Bool) (q : List Int → GV) (hws : ws.length ≤ 10) (hq : ∀ ns : List Int, ns.length = ws.length → (∀ x ∈ ns, goodN x = true) → Ret Tryz.prog F_maths_rounds_1 [.row false (ns.map cI), .elem [.int .i64 k]] (eV (q ns))) (l : List Ar) :
    Ret Tryz.prog F_maths_of_1 [.row false (l.map cA), .elem [.row false (ws.map cT)], .elem [.fn F_maths_rounds_1 [] [.elem [.int .i64 k]]]] (eV (ofN ws q l)) := by
  refine r_maths_of_1 rfl fun hw => ?_
  clear hw
  by_cases hl : l.length = ws.length
  · have hn := numbers_r l ws hl (by omega)
    by_cases h0 : (nmS l ws).2 = 0
    · have hq1 := hq (nmS l ws).1 (nmS_len hl h0) (nmS_ok l ws)
      rw [if_pos h0, decide_eq_true h0] at hn
      repeat' ((conv => whnf); (first | refine csp (fun h => ?_) (fun h => ?_) | refine cll (hn) (fun _ => ?_) | refine cll (hq1) (fun _ => ?_) | (refine sda ?_ ?_; (focus (first | rfl | (simp; done)))) | refine sda ?_ ?_ | refine conk rfl ?_ | refine ldk rfl ?_ | refine mapk (fun x hx => ?_) | intro hl))
      all_goals conv => whnf
      rw [ofN, if_pos hl, if_pos h0]
    · rw [if_neg h0, decide_eq_false h0] at hn
      repeat' ((conv => whnf); (first | refine csp (fun h => ?_) (fun h => ?_) | refine cll (hn) (fun _ => ?_) | (refine sda ?_ ?_; (focus (first | rfl | (simp; done)))) | refine sda ?_ ?_ | refine conk rfl ?_ | refine ldk rfl ?_ | refine mapk (fun x hx => ?_) | intro hl))
      all_goals conv => whnf
      rw [ofN, if_pos hl, if_neg h0]
  · have hn := numbers_far l ws hl
    repeat' ((conv => whnf); (first | refine csp (fun h => ?_) (fun h => ?_) | refine cll (hn) (fun _ => ?_) | (refine sda ?_ ?_; (focus (first | rfl | (simp; done)))) | refine sda ?_ ?_ | refine conk rfl ?_ | refine ldk rfl ?_ | refine mapk (fun x hx => ?_) | intro hl))
    all_goals conv => whnf
    rw [ofN, if_neg hl]
end Go.Proofs.YtnpcmgajplikbaaGreatDoor

/- Layer 17: what is found by name. -/
set_option maxRecDepth 100000
set_option linter.all false
namespace Go.Proofs.YtnpcmgajplikbaaGreatDoor
open Ab R
theorem plain_P (g : FuncId) : Ret Tryz.prog F_maths_plain [.fn g [] []] (.fn F_maths_of_1 [] [.elem [.row false [[.bool false]]], .elem [.fn F_maths_plain_1 [] [.elem [.fn g [] []]]]]) := by
  refine r_maths_plain rfl fun hw => ?_
  clear hw
  repeat' ((conv => whnf); (first | refine csp (fun h => ?_) (fun h => ?_) | refine cll (of_P _ [false]) (fun _ => ?_) | (refine sda ?_ ?_; (focus (first | rfl | (simp; done)))) | refine sda ?_ ?_ | refine conk rfl ?_ | refine ldk rfl ?_ | refine mapk (fun x hx => ?_) | intro hl))
  all_goals conv => whnf
  all_goals rfl
theorem rounds_r (k : Int) : Ret Tryz.prog F_maths_rounds [.int .i64 k] (.fn F_maths_of_1 [] [.elem [.row false [[.bool false], [.bool true]]], .elem [.fn F_maths_rounds_1 [] [.elem [.int .i64 k]]]]) := by
  refine r_maths_rounds rfl fun hw => ?_
  clear hw
  repeat' ((conv => whnf); (first | refine csp (fun h => ?_) (fun h => ?_) | refine cll (of_R _ [false, true]) (fun _ => ?_) | (refine sda ?_ ?_; (focus (first | rfl | (simp; done)))) | refine sda ?_ ?_ | refine conk rfl ?_ | refine ldk rfl ?_ | refine mapk (fun x hx => ?_) | intro hl))
  all_goals conv => whnf
  all_goals rfl
theorem unary_ABS : Ret Tryz.prog F_maths_unary [.str ⟨#[65, 66, 83]⟩] (.fn F_maths_of_1 [] [.elem [.row false [[.bool false]]], .elem [.fn F_maths_plain_1 [] [.elem [.fn F_maths_unary_1 [] []]]]]) := by
  refine r_maths_unary rfl fun hw => ?_
  clear hw
  repeat' ((conv => whnf); (first | refine csp (fun h => ?_) (fun h => ?_) | refine cll (plain_P _) (fun _ => ?_) | (refine sda ?_ ?_; (focus (first | rfl | (simp; done)))) | refine sda ?_ ?_ | refine conk rfl ?_ | refine ldk rfl ?_ | refine mapk (fun x hx => ?_) | intro hl))
  all_goals conv => whnf
  all_goals rfl
theorem mfnd_ROUND : Ret Tryz.prog F_maths_find [.str ⟨#[82, 79, 85, 78, 68]⟩] (.fn F_maths_of_1 [] [.elem [.row false [[.bool false], [.bool true]]], .elem [.fn F_maths_rounds_1 [] [.elem [.int .i64 0]]]]) := by
  refine r_maths_find rfl fun hw => ?_
  clear hw
  repeat' ((conv => whnf); (first | refine csp (fun h => ?_) (fun h => ?_) | refine cll (rounds_r _) (fun _ => ?_) | (refine sda ?_ ?_; (focus (first | rfl | (simp; done)))) | refine sda ?_ ?_ | refine conk rfl ?_ | refine ldk rfl ?_ | refine mapk (fun x hx => ?_) | intro hl))
  all_goals conv => whnf
  all_goals rfl
theorem mfnd_BASE : Ret Tryz.prog F_maths_find [.str ⟨#[66, 65, 83, 69]⟩] (.fn F_maths_of_1 [] [.elem [.row false [[.bool true], [.bool true]]], .elem [.fn F_maths_based [] []]]) := by
  refine r_maths_find rfl fun hw => ?_
  clear hw
  repeat' ((conv => whnf); (first | refine csp (fun h => ?_) (fun h => ?_) | refine cll (of_0 _ [true, true]) (fun _ => ?_) | (refine sda ?_ ?_; (focus (first | rfl | (simp; done)))) | refine sda ?_ ?_ | refine conk rfl ?_ | refine ldk rfl ?_ | refine mapk (fun x hx => ?_) | intro hl))
  all_goals conv => whnf
  all_goals rfl
theorem mfnd_DECIMAL : Ret Tryz.prog F_maths_find [.str ⟨#[68, 69, 67, 73, 77, 65, 76]⟩] (.fn F_maths_unbased [] []) := by
  refine r_maths_find rfl fun hw => ?_
  clear hw
  repeat' ((conv => whnf); (first | refine csp (fun h => ?_) (fun h => ?_) | (refine sda ?_ ?_; (focus (first | rfl | (simp; done)))) | refine sda ?_ ?_ | refine conk rfl ?_ | refine ldk rfl ?_ | refine mapk (fun x hx => ?_) | intro hl))
  all_goals conv => whnf
  all_goals rfl
theorem mfnd_ABS : Ret Tryz.prog F_maths_find [.str ⟨#[65, 66, 83]⟩] (.fn F_maths_of_1 [] [.elem [.row false [[.bool false]]], .elem [.fn F_maths_plain_1 [] [.elem [.fn F_maths_unary_1 [] []]]]]) := by
  refine r_maths_find rfl fun hw => ?_
  clear hw
  repeat' ((conv => whnf); (first | refine csp (fun h => ?_) (fun h => ?_) | refine cll (unary_ABS) (fun _ => ?_) | (refine sda ?_ ?_; (focus (first | rfl | (simp; done)))) | refine sda ?_ ?_ | refine conk rfl ?_ | refine ldk rfl ?_ | refine mapk (fun x hx => ?_) | intro hl))
  all_goals conv => whnf
  all_goals rfl
theorem mcall_0 (nm : ByteArray) (g : FuncId) (ws : List Bool) (args : List (List V)) (r : GV) (hf : Ret Tryz.prog F_maths_find [.str nm] (.fn F_maths_of_1 [] [.elem [.row false (ws.map cT)], .elem [.fn g [] []]])) (hr : Ret Tryz.prog F_maths_of_1 [.row false args, .elem [.row false (ws.map cT)], .elem [.fn g [] []]] (eV r)) :
    Ret Tryz.prog F_maths_Call [.str nm, .row false args] (.tup [eV r, .bool true]) := by
  refine r_maths_Call rfl fun hw => ?_
  clear hw
  repeat' ((conv => whnf); (first | refine csp (fun h => ?_) (fun h => ?_) | refine cll (hf) (fun _ => ?_) | refine cll (hr) (fun _ => ?_) | (refine sda ?_ ?_; (focus (first | rfl | (simp; done)))) | refine sda ?_ ?_ | refine conk rfl ?_ | refine ldk rfl ?_ | refine mapk (fun x hx => ?_) | intro hl))
  all_goals conv => whnf
theorem mcall_P (nm : ByteArray) (g : FuncId) (ws : List Bool) (args : List (List V)) (r : GV) (hf : Ret Tryz.prog F_maths_find [.str nm] (.fn F_maths_of_1 [] [.elem [.row false (ws.map cT)], .elem [.fn F_maths_plain_1 [] [.elem [.fn g [] []]]]])) (hr : Ret Tryz.prog F_maths_of_1 [.row false args, .elem [.row false (ws.map cT)], .elem [.fn F_maths_plain_1 [] [.elem [.fn g [] []]]]] (eV r)) :
    Ret Tryz.prog F_maths_Call [.str nm, .row false args] (.tup [eV r, .bool true]) := by
  refine r_maths_Call rfl fun hw => ?_
  clear hw
  repeat' ((conv => whnf); (first | refine csp (fun h => ?_) (fun h => ?_) | refine cll (hf) (fun _ => ?_) | refine cll (hr) (fun _ => ?_) | (refine sda ?_ ?_; (focus (first | rfl | (simp; done)))) | refine sda ?_ ?_ | refine conk rfl ?_ | refine ldk rfl ?_ | refine mapk (fun x hx => ?_) | intro hl))
  all_goals conv => whnf
theorem mcall_R (nm : ByteArray) (k : Int) (ws : List Bool) (args : List (List V)) (r : GV) (hf : Ret Tryz.prog F_maths_find [.str nm] (.fn F_maths_of_1 [] [.elem [.row false (ws.map cT)], .elem [.fn F_maths_rounds_1 [] [.elem [.int .i64 k]]]])) (hr : Ret Tryz.prog F_maths_of_1 [.row false args, .elem [.row false (ws.map cT)], .elem [.fn F_maths_rounds_1 [] [.elem [.int .i64 k]]]] (eV r)) :
    Ret Tryz.prog F_maths_Call [.str nm, .row false args] (.tup [eV r, .bool true]) := by
  refine r_maths_Call rfl fun hw => ?_
  clear hw
  repeat' ((conv => whnf); (first | refine csp (fun h => ?_) (fun h => ?_) | refine cll (hf) (fun _ => ?_) | refine cll (hr) (fun _ => ?_) | (refine sda ?_ ?_; (focus (first | rfl | (simp; done)))) | refine sda ?_ ?_ | refine conk rfl ?_ | refine ldk rfl ?_ | refine mapk (fun x hx => ?_) | intro hl))
  all_goals conv => whnf
theorem mcall_f (nm : ByteArray) (g : FuncId) (args : List (List V)) (r : GV) (hf : Ret Tryz.prog F_maths_find [.str nm] (.fn g [] [])) (hr : Ret Tryz.prog g [.row false args] (eV r)) :
    Ret Tryz.prog F_maths_Call [.str nm, .row false args] (.tup [eV r, .bool true]) := by
  refine r_maths_Call rfl fun hw => ?_
  clear hw
  repeat' ((conv => whnf); (first | refine csp (fun h => ?_) (fun h => ?_) | refine cll (hf) (fun _ => ?_) | refine cll (hr) (fun _ => ?_) | (refine sda ?_ ?_; (focus (first | rfl | (simp; done)))) | refine sda ?_ ?_ | refine conk rfl ?_ | refine ldk rfl ?_ | refine mapk (fun x hx => ?_) | intro hl))
  all_goals conv => whnf
theorem mask_r (nm : ByteArray) (args : List (List V)) (r : GV) (hc : Ret Tryz.prog F_maths_Call [.str nm, .row false args] (.tup [eV r, .bool true])) : Ret Tryz.prog F_octavolaw17_ask [.str nm, .row false args] (eV r) := by
  refine r_octavolaw17_ask rfl fun hw => ?_
  clear hw
  repeat' ((conv => whnf); (first | refine csp (fun h => ?_) (fun h => ?_) | refine cll (hc) (fun _ => ?_) | (refine sda ?_ ?_; (focus (first | rfl | (simp; done)))) | refine sda ?_ ?_ | refine conk rfl ?_ | refine ldk rfl ?_ | refine mapk (fun x hx => ?_) | intro hl))
  all_goals conv => whnf
theorem l17_one (v : GV) : Ret Tryz.prog F_octavolaw17_one [eV v] (eA ⟨1, 1, [v], false⟩) := by
  refine r_octavolaw17_one rfl fun hw => ?_
  clear hw
  repeat' ((conv => whnf); (first | refine csp (fun h => ?_) (fun h => ?_) | (refine sda ?_ ?_; (focus (first | rfl | (simp; done)))) | refine sda ?_ ?_ | refine conk rfl ?_ | refine ldk rfl ?_ | refine mapk (fun x hx => ?_) | intro hl))
  all_goals conv => whnf
  all_goals rfl
theorem l17_number (n : Int) : Ret Tryz.prog F_octavolaw17_number [.int .i64 n] (eA ⟨1, 1, [⟨1, n, e0⟩], false⟩) := by
  refine r_octavolaw17_number rfl fun hw => ?_
  clear hw
  repeat' ((conv => whnf); (first | refine csp (fun h => ?_) (fun h => ?_) | refine cll (l17_one ⟨1, n, e0⟩) (fun _ => ?_) | (refine sda ?_ ?_; (focus (first | rfl | (simp; done)))) | refine sda ?_ ?_ | refine conk rfl ?_ | refine ldk rfl ?_ | refine mapk (fun x hx => ?_) | intro hl))
  all_goals conv => whnf
end Go.Proofs.YtnpcmgajplikbaaGreatDoor

/- Walks over rows, as the small reckoner's contracts. -/
set_option maxRecDepth 100000
set_option linter.all false
namespace Go.Proofs.YtnpcmgajplikbaaGreatDoor
open Ab R P Go.RowKit Go.Proofs.YtnpcmgajplikbaaGreatDoorW.PrintWords Go.Proofs.YtnpcmgajplikbaaGreatDoorW.PrintLast
theorem Ab.Ret.callsW {P : Program} {f : FuncId} {args : List V} {r : V} {x : Value} (hcall : ∀ ar w, (callFunc f ar).run P w = .ok (.enter f ar) w) (hr : Fits r x)
    (h : ∀ (m : Mem) (w : World) (vs : List Value), m.ok w → RepL m [] args vs → Calls P f vs.toArray w fun e w' => e = .returned x ∧ Below w.heap.size w w') : Ret P f args r := by
  intro m w ys hm rv
  unfold CallsX
  rw [hcall]
  refine (h m w ys hm rv).mono fun e w' ⟨he, hb⟩ => ⟨x, he, m, fun _ _ _ q => q, fun b o v hv => ?_, hr m, hb, fun b o y hy hn => by rw [hy] at hn; cases hn⟩
  rw [World.cell?_of_block (w := w) (a := ⟨b, o, none⟩) (hb.block b (hm.lt hv))]
  exact hm b o v hv
theorem kdc_of {α : Type} (d : Kd α) {m : Mem} {w : World} (hm : m.ok w) {x : Bool} {els : List (List V)} {xs : List α} {v : Value} (h : Rep m [] (.row x els) v) (hl : xs.length = els.length) (hz : ∀ e ∈ els, e.length = d.sz)
    (hK : ∀ (i : Nat) (e : List V) (p : α) (cs : List Value), els[i]? = some e → xs[i]? = some p → RepL m [] e cs → d.K w p cs) : ∃ A cap, v = .slice A xs.length cap ∧ xs.length ≤ cap ∧ d.C w A xs.length xs := by
  cases h with
  | row ι x els a cap sz b o g hx hc hlen hs ha hcell hr =>
    refine ⟨a, cap, by rw [hl], by omega, rfl, by omega, fun hpos => ?_⟩
    have hne : els ≠ [] := fun q => by subst q; have h0 : xs.length = 0 := hl; omega
    have hsz : sz = d.sz := by
      cases els with
      | nil => exact absurd rfl hne
      | cons e l => rw [← hs e List.mem_cons_self, hz e List.mem_cons_self]
    refine ⟨⟨b, o, none⟩, ha hne, fun j p hj => ?_⟩
    have hjl : j < els.length := by rw [← hl]; exact (List.getElem?_eq_some_iff.1 hj).1
    have he := List.getElem?_eq_getElem hjl
    have hel : (els[j]).length = d.sz := hz _ (List.getElem_mem hjl)
    refine ⟨(List.range d.sz).map (g j), by simp, hK j _ p _ he hj ⟨by simp [hel], fun i c y hc hy => ?_⟩, fun i u hu => ?_⟩
    · have hi : i < d.sz := by rw [← hel]; exact (List.getElem?_eq_some_iff.1 hc).1
      rw [List.getElem?_map, List.getElem?_range hi] at hy
      obtain rfl := Option.some.inj hy
      exact hr j i _ c he hc
    · have hi : i < d.sz := by
        have := (List.getElem?_eq_some_iff.1 hu).1
        simpa using this
      rw [List.getElem?_map, List.getElem?_range hi] at hu
      obtain rfl := Option.some.inj hu
      have := hcell j i _ _ he (List.getElem?_eq_getElem (by rw [hel]; exact hi))
      have hcl := hm _ _ _ this
      rw [hsz] at hcl
      have e1 : (Addr.add ⟨b, o, none⟩ (j * d.sz + i)) = ⟨b, o + (j * d.sz + i), none⟩ := by
        unfold Addr.add
        split
        · rename_i h0
          rw [h0]
          rfl
        · rfl
      rw [e1, ← Nat.add_assoc]
      exact hcl
theorem kdc_ints {m : Mem} {w : World} (hm : m.ok w) {x : Bool} {l : List Int} {v : Value} (h : Rep m [] (.row x (l.map fun n => [.int .i64 n])) v) : ∃ A cap, v = .slice A l.length cap ∧ l.length ≤ cap ∧ Kd.C (Kd.int .i64) w A l.length l := by
  refine kdc_of (Kd.int .i64) hm h (by simp) (fun e he => ?_) (fun i e p cs he hp hr => ?_)
  · obtain ⟨n, _, rfl⟩ := List.mem_map.1 he
    rfl
  · rw [List.getElem?_map, hp] at he
    obtain rfl := Option.some.inj he
    exact sames_repL (vs := [.int .i64 p]) (xs := [.int .i64 p]) ⟨same_int _ _, True.intro⟩ hr
theorem based_c (l : List Int) (r1 r2 : Int) (r3 : ByteArray) (h : Ev (fun k => maths_based.f k l) (r1, r2, r3)) (o1 : IntKind.i64.wrap r1 = r1) (o2 : IntKind.i64.wrap r2 = r2) (o3 : r3.size ≤ 9223372036854775807) : Ret Tryz.prog F_maths_based [.row false (l.map fun n => [.int .i64 n])] (.agg [.int .i64 r1, .int .i64 r2, .str r3]) := by
  obtain ⟨k, hk⟩ := h.rounds
  refine Ab.Ret.callsW Tryz.call55 (fits_agg (xs := [.int .i64 r1, .int .i64 r2, .string r3]) ⟨fits_int o1, ⟨fits_int o2, ⟨fits_str o3, True.intro⟩⟩⟩) (fun m w vs hm hv => ?_)
  obtain ⟨v, rfl⟩ : ∃ v, vs = [v] := by
    have := hv.1
    match vs, this with
    | [v], _ => exact ⟨v, rfl⟩
  obtain ⟨A, cap, rfl, hc, hC⟩ := kdc_ints hm (hv.2 0 _ _ rfl rfl)
  exact maths_based.calls k A cap l r1 r2 r3 w hC hc hk
end Go.Proofs.YtnpcmgajplikbaaGreatDoor

/- Layer 17: rounding, bases; the examples live. -/
set_option maxRecDepth 100000
set_option linter.all false
namespace Go.Proofs.YtnpcmgajplikbaaGreatDoor
open Ab R
abbrev oA (v : GV) : Ar := ⟨1, 1, [v], false⟩
theorem one_oA {v : GV} (h : goodV v = true) : oneS (oA v) = v := by
  have : goodA (oA v) = true := goodA_yes ⟨by simp [oA], by simp [oA], by simp [oA], by simp [oA], rfl⟩ (by simp [oA, h])
  rw [oneS, if_pos ⟨rfl, this⟩]
  rfl
theorem goodV_num {n : Int} (h : goodN n = true) : goodV ⟨1, n, e0⟩ = true := by
  simp [goodV, h]
theorem num_Round (n d how : Int) (h1 : -9223372036854775808 ≤ d) (h2 : d ≤ 9223372036854775807) : Ret Tryz.prog F_num_Round [.int .i64 n, .int .i64 d, .int .i64 how] (.tup [.int .i64 (Nm.rnd n d how).1, .bool (Nm.rnd n d how).2]) := by
  have := Mt.rnd_bd n d how
  exact c_num_Round n d how (Nm.rnd n d how).1 (Nm.rnd n d how).2 (Nm.Round_is n d how ⟨h1, h2⟩) (w64 (by omega))
theorem rounds_1 (x d k : Int) (h1 : -9223372036854775808 ≤ d) (h2 : d ≤ 9223372036854775807) : Ret Tryz.prog F_maths_rounds_1 [.row false [[.int .i64 x], [.int .i64 d]], .elem [.int .i64 k]] (eV (ofS (Nm.rnd x d k).1 (Nm.rnd x d k).2)) := by
  refine r_maths_rounds_1 rfl fun hw => ?_
  clear hw
  repeat' ((conv => whnf); (first | refine csp (fun h => ?_) (fun h => ?_) | refine cll (num_Round _ _ _ h1 h2) (fun _ => ?_) | refine cll (value_Of _ _) (fun _ => ?_) | (refine sda ?_ ?_; (focus (first | rfl | (simp; done)))) | refine sda ?_ ?_ | refine conk rfl ?_ | refine ldk rfl ?_ | refine mapk (fun x hx => ?_) | intro hl))
  all_goals conv => whnf
def two (f : Int → Int → GV) (l : List Int) : GV := f (l.getD 0 0) (l.getD 1 0)
def one1 (f : Int → GV) (l : List Int) : GV := f (l.getD 0 0)
theorem hq2 {g : FuncId} {cap : List V} {f : Int → Int → GV} {ws : List Bool} (hw : ws.length = 2) (h : ∀ x y, goodN x = true → goodN y = true → Ret Tryz.prog g (.row false [[.int .i64 x], [.int .i64 y]] :: cap) (eV (f x y))) : ∀ ns : List Int, ns.length = ws.length → (∀ x ∈ ns, goodN x = true) → Ret Tryz.prog g (.row false (ns.map cI) :: cap) (eV (two f ns)) := by
  intro ns hl hg
  rw [hw] at hl
  match ns, hl with
  | [x, y], _ => exact h x y (hg x (by simp)) (hg y (by simp))
theorem hq1 {g : FuncId} {cap : List V} {f : Int → GV} {ws : List Bool} (hw : ws.length = 1) (h : ∀ x, goodN x = true → Ret Tryz.prog g (.row false [[.int .i64 x]] :: cap) (eV (f x))) : ∀ ns : List Int, ns.length = ws.length → (∀ x ∈ ns, goodN x = true) → Ret Tryz.prog g (.row false (ns.map cI) :: cap) (eV (one1 f ns)) := by
  intro ns hl hg
  rw [hw] at hl
  match ns, hl with
  | [x], _ => exact h x (hg x (by simp))
theorem goodN_b {x : Int} (h : goodN x = true) : -100000000000 ≤ x ∧ x ≤ 100000000000 := by
  simpa only [goodN, decide_eq_true_eq] using h
theorem round_any (nm : ByteArray) (k : Int) (hf : Ret Tryz.prog F_maths_find [.str nm] (.fn F_maths_of_1 [] [.elem [.row false [[.bool false], [.bool true]]], .elem [.fn F_maths_rounds_1 [] [.elem [.int .i64 k]]]])) (l : List Ar) : Ret Tryz.prog F_maths_Call [.str nm, .row false (l.map cA)] (.tup [eV (ofN [false, true] (two fun x d => ofS (Nm.rnd x d k).1 (Nm.rnd x d k).2) l), .bool true]) :=
  mcall_R nm k [false, true] _ _ hf (of1_R k [false, true] _ (by decide) (hq2 rfl (fun x y _ hy => rounds_1 x y k (by have := goodN_b hy; omega) (by have := goodN_b hy; omega))) l)
theorem lv1 : Ret Tryz.prog F_octavolaw17_ask [.str ⟨#[82, 79, 85, 78, 68]⟩, .row false [cA (oA ⟨1, 25000, e0⟩), cA (oA ⟨1, 0, e0⟩)]] (eV ⟨1, 30000, e0⟩) := by
  have h := mask_r _ _ _ (round_any _ _ mfnd_ROUND [oA ⟨1, 25000, e0⟩, oA ⟨1, 0, e0⟩])
  rw [show ofN [false, true] (two fun x d => ofS (Nm.rnd x d 0).1 (Nm.rnd x d 0).2) [oA ⟨1, 25000, e0⟩, oA ⟨1, 0, e0⟩] = ⟨1, 30000, e0⟩ by rfl] at h
  exact h
def bsS (n b : Int) : GV := if n < 0 ∨ b < 2 ∨ 36 < b then badS 5 else ⟨2, 0, strOfNums (Mt.bdgs n b)⟩
theorem bdgs_size (n b : Int) : (strOfNums (Mt.bdgs n b)).size ≤ 38 := by
  rw [Nm.son_size]
  exact Mt.bdg_len 37 (n / b) b [_]
theorem based_r (n b : Int) (hn : goodN n = true) : Ret Tryz.prog F_maths_based [.row false [[.int .i64 n], [.int .i64 b]]] (eV (bsS n b)) := by
  have hb := goodN_b hn
  by_cases h : n < 0 ∨ b < 2 ∨ 36 < b
  · rw [bsS, if_pos h]
    exact based_c [n, b] 4 5 ⟨#[]⟩ (Mt.based_no h) rfl rfl (by decide)
  · rw [bsS, if_neg h]
    have hs := bdgs_size n b
    exact based_c [n, b] 2 0 _ (Mt.based_is (by omega) (by omega) (by omega) (by omega)) rfl rfl (show (strOfNums (Mt.bdgs n b)).size ≤ 9223372036854775807 by omega)
theorem base_any (l : List Ar) : Ret Tryz.prog F_maths_Call [.str ⟨#[66, 65, 83, 69]⟩, .row false (l.map cA)] (.tup [eV (ofN [true, true] (two bsS) l), .bool true]) :=
  mcall_0 _ _ [true, true] _ _ mfnd_BASE (of1_0 _ [true, true] _ (by decide) (hq2 rfl (fun x y hx _ => based_r x y hx)) l)
theorem lv2 : Ret Tryz.prog F_octavolaw17_ask [.str ⟨#[66, 65, 83, 69]⟩, .row false [cA (oA ⟨1, 2550000, e0⟩), cA (oA ⟨1, 160000, e0⟩)]] (eV ⟨2, 0, ⟨#[70, 70]⟩⟩) := by
  have h := mask_r _ _ _ (base_any [oA ⟨1, 2550000, e0⟩, oA ⟨1, 160000, e0⟩])
  rw [show ofN [true, true] (two bsS) [oA ⟨1, 2550000, e0⟩, oA ⟨1, 160000, e0⟩] = ⟨2, 0, ⟨#[70, 70]⟩⟩ by rfl] at h
  exact h
theorem lv3 : Ret Tryz.prog F_octavolaw17_ask [.str ⟨#[65, 66, 83]⟩, .row false []] (eV ⟨4, 2, e0⟩) := by
  have hn : Ret Tryz.prog F_maths_of_1 [.row false [], .elem [.row false [[.bool false]]], .elem [.fn F_maths_plain_1 [] [.elem [.fn F_maths_unary_1 [] []]]]] (eV (badS 2)) := by
    have hf := numbers_far [] [false] (by decide)
    refine r_maths_of_1 rfl fun hw => ?_
    clear hw
    repeat' ((conv => whnf); (first | refine csp (fun h => ?_) (fun h => ?_) | refine cll (hf) (fun _ => ?_) | (refine sda ?_ ?_; (focus (first | rfl | (simp; done)))) | refine sda ?_ ?_ | refine conk rfl ?_ | refine ldk rfl ?_ | refine mapk (fun x hx => ?_) | intro hl))
    all_goals conv => whnf
  exact mask_r _ _ _ (mcall_P _ _ [false] _ _ mfnd_ABS hn)
theorem lv4 : Ret Tryz.prog F_maths_One [eA (oA ⟨1, 5, e0⟩)] (eV ⟨1, 5, e0⟩) := by
  have h := maths_One (oA ⟨1, 5, e0⟩)
  rwa [one_oA (by decide +kernel)] at h
theorem l17_lives : Ret Tryz.prog F_octavolaw17_lives [] (.bool true) := by
  refine r_octavolaw17_lives rfl fun hw => ?_
  clear hw
  repeat' ((conv => whnf); (first | refine csp (fun h => ?_) (fun h => ?_) | refine cll (lv1) (fun _ => ?_) | refine cll (lv2) (fun _ => ?_) | refine cll (lv3) (fun _ => ?_) | refine cll (lv4) (fun _ => ?_) | refine cll (l17_number _) (fun _ => ?_) | (refine sda ?_ ?_; (focus (first | rfl | (simp; done)))) | refine sda ?_ ?_ | refine conk rfl ?_ | refine ldk rfl ?_ | refine mapk (fun x hx => ?_) | intro hl))
  all_goals conv => whnf
  all_goals rfl
end Go.Proofs.YtnpcmgajplikbaaGreatDoor

/- Layer 17: divisors and bits. -/
set_option maxRecDepth 100000
set_option linter.all false
namespace Go.Proofs.YtnpcmgajplikbaaGreatDoor
open Ab R
def whM (k : Int) : GV := if k > 10000000 ∨ -k > 10000000 then badS 5 else ofS (k * 10000) true
theorem maths_whole (k : Int) (hk : -9000000000000000000 ≤ k ∧ k ≤ 9000000000000000000) : Ret Tryz.prog F_maths_whole [.int .i64 k] (eV (whM k)) := by
  refine r_maths_whole rfl fun hw => ?_
  clear hw
  repeat' ((conv => whnf); (first | refine csp (fun h => ?_) (fun h => ?_) | refine cll (value_Bad _) (fun _ => ?_) | refine cll (value_Of _ _) (fun _ => ?_) | (refine sda ?_ ?_; (focus (first | rfl | (simp; done)))) | refine sda ?_ ?_ | refine conk rfl ?_ | refine ldk rfl ?_ | refine mapk (fun x hx => ?_) | intro hl))
  all_goals conv => whnf
  all_goals try simp only [decide_eq_true_eq, decide_eq_false_iff_not, Bool.not_eq_true', Bool.not_eq_false', List.length_map, Int.not_lt, Int.not_le, Decidable.not_not, gt_iff_lt, ge_iff_le] at *
  · rw [w64 (by omega)] at h
    rw [whM, if_pos (by split at h <;> omega)]
  · rw [w64 (by omega)] at h
    have hk2 : ¬ (k > 10000000 ∨ -k > 10000000) := by split at h <;> omega
    rw [whM, if_neg hk2, w64 (by omega)]
end Go.Proofs.YtnpcmgajplikbaaGreatDoor

/- MathsDivides. -/
set_option maxRecDepth 100000
set_option linter.all false
namespace Go.Proofs.YtnpcmgajplikbaaGreatDoor
open Ab R
theorem tn_num (n : Int) : tn ⟨1, n, e0⟩ = (n, 0) := by simp [tn, Vl.tnum]
theorem goodN_k {k : Int} (h1 : -10000000 ≤ k) (h2 : k ≤ 10000000) : goodN (k * 10000) = true := by
  rw [goodN, decide_eq_true_eq]
  omega
theorem wholeS_num {k : Int} (h1 : -10000000 ≤ k) (h2 : k ≤ 10000000) : wholeS (k * 10000) = (k, true) := by
  rw [wholeS, if_pos ⟨goodN_k h1 h2, Int.mul_tmod_left _ _⟩, Int.mul_tdiv_cancel _ (by decide)]
theorem stN_w {st : List Int × Int} (hs : st.2 = 0) {k : Int} (h1 : -10000000 ≤ k) (h2 : k ≤ 10000000) : stN st (oA ⟨1, k * 10000, e0⟩, true) = (st.1 ++ [k], 0) := by
  rw [stN, if_neg (by rw [hs]; simp), one_oA (goodV_num (goodN_k h1 h2)), tn_num, if_neg (by simp), if_pos rfl, wholeS_num h1 h2, if_pos rfl]
theorem nm_two {x y : Int} (h1 : 0 ≤ x) (h2 : x ≤ 10000000) (h3 : 0 ≤ y) (h4 : y ≤ 10000000) : nmS [oA ⟨1, x * 10000, e0⟩, oA ⟨1, y * 10000, e0⟩] [true, true] = ([x, y], 0) := by
  show List.foldl stN ([], 0) [(oA ⟨1, x * 10000, e0⟩, true), (oA ⟨1, y * 10000, e0⟩, true)] = _
  rw [List.foldl_cons, stN_w rfl (by omega) (by omega), List.foldl_cons, stN_w rfl (by omega) (by omega)]
  rfl
theorem whM_yes {k : Int} (h1 : 0 ≤ k) (h2 : k ≤ 10000000) : whM k = ⟨1, k * 10000, e0⟩ := by
  rw [whM, if_neg (by omega), ofS, goodN_k (by omega) h2]
  rfl
end Go.Proofs.YtnpcmgajplikbaaGreatDoor

/- Layer 17: whatever the arguments, a good value. -/
set_option maxRecDepth 100000
set_option linter.all false
namespace Go.Proofs.YtnpcmgajplikbaaGreatDoor
open Ab R
theorem e1 {g : FuncId} {cap : List V} {ws : List Bool} (hw : ws.length = 1) (h : ∀ x, goodN x = true → ∃ v, goodV v = true ∧ Ret Tryz.prog g (.row false [[.int .i64 x]] :: cap) (eV v)) : ∀ ns : List Int, ns.length = ws.length → (∀ x ∈ ns, goodN x = true) → ∃ v, goodV v = true ∧ Ret Tryz.prog g (.row false (ns.map cI) :: cap) (eV v) := by
  intro ns hl hg
  rw [hw] at hl
  match ns, hl with
  | [x], _ => exact h x (hg x (by simp))
theorem e2 {g : FuncId} {cap : List V} {ws : List Bool} (hw : ws.length = 2) (h : ∀ x y, goodN x = true → goodN y = true → ∃ v, goodV v = true ∧ Ret Tryz.prog g (.row false [[.int .i64 x], [.int .i64 y]] :: cap) (eV v)) : ∀ ns : List Int, ns.length = ws.length → (∀ x ∈ ns, goodN x = true) → ∃ v, goodV v = true ∧ Ret Tryz.prog g (.row false (ns.map cI) :: cap) (eV v) := by
  intro ns hl hg
  rw [hw] at hl
  match ns, hl with
  | [x, y], _ => exact h x y (hg x (by simp)) (hg y (by simp))
end Go.Proofs.YtnpcmgajplikbaaGreatDoor

/- Layer 17: digits as a number. -/
set_option maxRecDepth 100000
set_option linter.all false
namespace Go.Proofs.YtnpcmgajplikbaaGreatDoor
open Ab R Go.Proofs.YtnpcmgajplikbaaGreatDoorW.PrintWords
def dgB : ByteArray := ⟨#[48, 49, 50, 51, 52, 53, 54, 55, 56, 57, 65, 66, 67, 68, 69, 70, 71, 72, 73, 74, 75, 76, 77, 78, 79, 80, 81, 82, 83, 84, 85, 86, 87, 88, 89, 90]⟩
/-- A digit's worth: the last place among the first j digits where it stands; else b. -/
def dvS (b : Int) (c : UInt8) (j : Nat) : Int := (List.range j).foldl (fun (d : Int) (i : Nat) => if dgB.data.toList[i]? = some c then (i : Int) else d) b
theorem dvS_next (b : Int) (c : UInt8) (j : Nat) : dvS b c (j + 1) = if dgB.data.toList[j]? = some c then (j : Int) else dvS b c j := by
  rw [dvS, List.range_succ, List.foldl_append]
  rfl
theorem ba_get (s : ByteArray) (j : Nat) : s[j]? = s.data.toList[j]? := by
  by_cases h : j < s.size
  · rw [getElem?_pos s j h, List.getElem?_eq_getElem (by rw [Array.length_toList]; exact h)]
    rfl
  · rw [getElem?_neg s j h, List.getElem?_eq_none (by rw [Array.length_toList]; exact Nat.le_of_not_lt h)]
/-- Digits as a number; false: one of them is none. -/
def stU (b : Int) (st : Int × Bool) (c : UInt8) : Int × Bool := if st.2 = false then st else if dvS b c b.toNat = b then (0, false) else (IntKind.i64.wrap (IntKind.i64.wrap (st.1 * b) + dvS b c b.toNat), true)
def unbS (b : Int) (l : List UInt8) : Int × Bool := l.foldl (stU b) (0, true)
theorem stU_err (b : Int) : ∀ (l : List UInt8) (st : Int × Bool), st.2 = false → l.foldl (stU b) st = st
  | [], _, _ => rfl
  | v :: l, st, h => by rw [List.foldl_cons, stU, if_pos h]; exact stU_err b l st h
def decS (s : ByteArray) (b : Int) : GV := if b < 2 ∨ 36 < b ∨ s = ⟨#[]⟩ ∨ 10 < s.size then badS 5 else if (unbS b (Vl.up s).data.toList).2 = true then whM (unbS b (Vl.up s).data.toList).1 else badS 5
theorem up_size (s : ByteArray) : (Vl.up s).size = s.size := by
  unfold Vl.up X.mapS
  rw [Nm.son_size, List.length_map]
  exact bytesOf_length s
theorem dvS_bd (b : Int) (c : UInt8) : ∀ j : Nat, dvS b c j = b ∨ (0 ≤ dvS b c j ∧ dvS b c j < j)
  | 0 => .inl rfl
  | j + 1 => by
    rw [dvS_next]
    split
    · exact .inr ⟨by omega, by omega⟩
    · rcases dvS_bd b c j with h | h
      · exact .inl h
      · exact .inr ⟨h.1, by omega⟩
theorem pow36 (m : Nat) (h : m ≤ 10) : (1 : Int) ≤ 36 ^ m ∧ (36 : Int) ^ m ≤ 3656158440062976 := by
  rcases (show m = 0 ∨ m = 1 ∨ m = 2 ∨ m = 3 ∨ m = 4 ∨ m = 5 ∨ m = 6 ∨ m = 7 ∨ m = 8 ∨ m = 9 ∨ m = 10 by omega) with rfl | rfl | rfl | rfl | rfl | rfl | rfl | rfl | rfl | rfl | rfl <;> decide
theorem unb_l (b : Int) (h2 : 2 ≤ b) (h3 : b ≤ 36) : ∀ (l : List UInt8) (n : Int) (m : Nat), 0 ≤ n → n < 36 ^ m → m + l.length ≤ 10 → 0 ≤ (l.foldl (stU b) (n, true)).1 ∧ (l.foldl (stU b) (n, true)).1 ≤ 3656158440062976
  | [], n, m, h0, h1, hm => by
    have := pow36 m (by simpa using hm)
    exact ⟨h0, by show n ≤ _; omega⟩
  | c :: l, n, m, h0, h1, hm => by
    simp only [List.length_cons] at hm
    rw [List.foldl_cons, stU, if_neg (by simp)]
    split
    · rw [stU_err b l _ rfl]
      simp
    · rename_i hd
      have hb := dvS_bd b c b.toNat
      have p1 := pow36 m (by omega)
      have p2 := pow36 (m + 1) (by omega)
      have e : (36 : Int) ^ (m + 1) = 36 ^ m * 36 := Int.pow_succ 36 m
      have q1 : n * b ≤ (36 ^ m - 1) * 36 := Int.mul_le_mul (by omega) h3 (by omega) (by omega)
      have q2 : 0 ≤ n * b := Int.mul_nonneg h0 (by omega)
      have e2 : ((36 : Int) ^ m - 1) * 36 = 36 ^ m * 36 - 36 := by rw [Int.sub_mul]; rfl
      have hd2 : 0 ≤ dvS b c b.toNat ∧ dvS b c b.toNat < 36 := by
        rcases hb with hb | hb
        · exact absurd hb hd
        · omega
      rw [w64 (n := n * b) (by omega), w64 (by omega)]
      exact unb_l b h2 h3 l _ (m + 1) (by omega) (by omega) (by omega)
theorem unb_bd (b : Int) (l : List UInt8) (h2 : 2 ≤ b) (h3 : b ≤ 36) (hl : l.length ≤ 10) : -9000000000000000000 ≤ (unbS b l).1 ∧ (unbS b l).1 ≤ 9000000000000000000 := by
  have := unb_l b h2 h3 l 0 0 (by omega) (by decide) (by omega)
  unfold unbS
  omega
theorem unbased_r (a b : Ar) (k : Int) (h0 : (tx (oneS a)).2 = 0) (hk : nmS [b] [true] = ([k], 0)) (hkg : goodN k = true) : Ret Tryz.prog F_maths_unbased [.row false [cA a, cA b]] (eV (decS (tx (oneS a)).1 k)) := by
  have hs := tx_good (oneS_good a)
  have ht := ToText_g _ (oneS_good a)
  have hU : Ret Tryz.prog F_value_Upper [.str (tx (oneS a)).1] (.str (Vl.up (tx (oneS a)).1)) := c_value_Upper _ _ (Vl.Upper_is (by omega)) (by rw [up_size]; omega)
  have hn := numbers_r [b] [true] rfl (show 1 ≤ 10 by decide)
  rw [hk] at hn
  rw [h0] at ht
  have hsz := up_size (tx (oneS a)).1
  generalize (tx (oneS a)).1 = s at *
  have bk := goodN_b hkg
  refine r_maths_unbased rfl fun hw => ?_
  clear hw
  repeat' ((conv => whnf); (first | refine csp (fun h => ?_) (fun h => ?_) | refine cll (value_Bad _) (fun _ => ?_) | refine cll (maths_One _) (fun _ => ?_) | refine cll (ht) (fun _ => ?_) | refine cll (hU) (fun _ => ?_) | refine cll (hn) (fun _ => ?_) | (refine sda ?_ ?_; (focus (first | rfl | (simp; done)))) | refine sda ?_ ?_ | refine conk rfl ?_ | refine ldk rfl ?_ | refine mapk (fun x hx => ?_) | intro hl))
  · simp only [List.mem_cons, List.not_mem_nil, or_false] at hl
    rcases hl with rfl | rfl <;> rfl
  · conv => whnf
    try simp only [decide_eq_true_eq, decide_eq_false_iff_not, Bool.not_eq_true', Bool.not_eq_false', List.length_map, Int.not_lt, Int.not_le, Decidable.not_not, gt_iff_lt, ge_iff_le] at *
    rw [decS, if_pos (by omega)]
  · conv => whnf
    try simp only [decide_eq_true_eq, decide_eq_false_iff_not, Bool.not_eq_true', Bool.not_eq_false', List.length_map, Int.not_lt, Int.not_le, Decidable.not_not, gt_iff_lt, ge_iff_le] at *
    rw [decS, if_pos (by omega)]
  · conv => whnf
    try simp only [decide_eq_true_eq, decide_eq_false_iff_not, Bool.not_eq_true', Bool.not_eq_false', List.length_map, Int.not_lt, Int.not_le, Decidable.not_not, gt_iff_lt, ge_iff_le] at *
    rw [decS, if_pos (.inr (.inr (.inl h)))]
  · conv => whnf
    try simp only [decide_eq_true_eq, decide_eq_false_iff_not, Bool.not_eq_true', Bool.not_eq_false', List.length_map, Int.not_lt, Int.not_le, Decidable.not_not, gt_iff_lt, ge_iff_le] at *
    rw [decS, if_pos (by omega)]
  · try simp only [decide_eq_true_eq, decide_eq_false_iff_not, Bool.not_eq_true', Bool.not_eq_false', List.length_map, Int.not_lt, Int.not_le, Decidable.not_not, gt_iff_lt, ge_iff_le] at *
    show (Vl.up s).size ≤ 140737488355327
    omega
  try simp only [decide_eq_true_eq, decide_eq_false_iff_not, Bool.not_eq_true', Bool.not_eq_false', List.length_map, Int.not_lt, Int.not_le, Decidable.not_not, gt_iff_lt, ge_iff_le] at *
  have hd : decS s k = if (unbS k (Vl.up s).data.toList).2 = true then whM (unbS k (Vl.up s).data.toList).1 else badS 5 := by
    rw [decS, if_neg (fun q => by
      rcases q with q | q | q | q
      · omega
      · omega
      · exact absurd q (by assumption)
      · omega)]
  rw [hd]
  have hlen : (Vl.up s).data.toList.length = (Vl.up s).size := Array.length_toList
  have hub := unb_bd k (Vl.up s).data.toList (by omega) (by omega) (by rw [hlen]; omega)
  generalize (Vl.up s).data.toList = L at *
  rw [← hlen]
  refine ⟨Nat, [2, 8, 9, 62, 63, 64], [0, 1, 2], fun i => [(2, .ptr 0 0), (8, .int .i64 k), (9, .int .i64 ((L.take i).foldl (stU k) (0, true)).1), (62, .sl 2 0 L.length), (63, .int .i64 L.length), (64, .int .i64 i)], fun _ => [.box true (cV ⟨0, 0, e0⟩), .box true (cV ⟨0, 0, e0⟩), .arr true 1 (L.map fun c => [.int .u8 c.toNat])], fun i => i ≤ L.length ∧ ((L.take i).foldl (stU k) (0, true)).2 = true, fun i => L.length - i, rfl, ?_, fun i hi => ?_⟩
  · exact ⟨0, rfl, rfl, Nat.zero_le _, rfl⟩
  · obtain ⟨hi, h2⟩ := hi
    repeat' ((conv => whnf); (first | refine csp (fun h => ?_) (fun h => ?_) | refine cll (value_Bad _) (fun _ => ?_) | (refine sda ?_ ?_; (focus (first | rfl | (simp; done)))) | refine sda ?_ ?_ | refine conk rfl ?_ | refine ldk rfl ?_ | refine mapk (fun x hx => ?_) | intro hl))
    · try simp only [decide_eq_true_eq, decide_eq_false_iff_not, Bool.not_eq_true', Bool.not_eq_false', List.length_map, Int.not_lt, Int.not_le, Decidable.not_not, gt_iff_lt, ge_iff_le] at *
      omega
    · try simp only [decide_eq_true_eq, decide_eq_false_iff_not, Bool.not_eq_true', Bool.not_eq_false', List.length_map, Int.not_lt, Int.not_le, Decidable.not_not, gt_iff_lt, ge_iff_le] at *
      omega
    · have hx' : L[i]? = some x := by
        have := hx
        rwa [Nat.zero_add] at this
      try simp only [decide_eq_true_eq, decide_eq_false_iff_not, Bool.not_eq_true', Bool.not_eq_false', List.length_map, Int.not_lt, Int.not_le, Decidable.not_not, gt_iff_lt, ge_iff_le] at *
      have hlt := (List.getElem?_eq_some_iff.1 hx').1
      have e : stU k ((L.take i).foldl (stU k) (0, true)) x = if dvS k x k.toNat = k then (0, false) else (IntKind.i64.wrap (IntKind.i64.wrap (((L.take i).foldl (stU k) (0, true)).1 * k) + dvS k x k.toNat), true) := by rw [stU, if_neg (by rw [h2]; simp)]
      refine ⟨Nat, [2, 8, 9, 11, 12, 62, 63, 64, 69, 70], [0, 1, 2], fun j => [(2, .ptr 0 0), (8, .int .i64 k), (9, .int .i64 ((L.take i).foldl (stU k) (0, true)).1), (11, .int .u8 x.toNat), (12, .int .i64 (dvS k x j)), (62, .sl 2 0 L.length), (63, .int .i64 L.length), (64, .int .i64 i), (69, .int .i64 k), (70, .int .i64 j)], fun _ => [.box true (cV ⟨0, 0, e0⟩), .box true (cV ⟨0, 0, e0⟩), .arr true 1 (L.map fun c => [.int .u8 c.toNat])], fun j => j ≤ k.toNat, fun j => k.toNat - j, rfl, ?_, fun j hj => ?_⟩
      · exact ⟨0, rfl, rfl, Nat.zero_le _⟩
      · repeat' ((conv => whnf); (first | refine csp (fun h => ?_) (fun h => ?_) | refine cll (value_Bad _) (fun _ => ?_) | (refine sda ?_ ?_; (focus (first | rfl | (simp; done)))) | refine sda ?_ ?_ | refine conk rfl ?_ | refine ldk rfl ?_ | refine mapk (fun x hx => ?_) | intro hl))
        all_goals conv => whnf
        all_goals try simp only [decide_eq_true_eq, decide_eq_false_iff_not, Bool.not_eq_true', Bool.not_eq_false', List.length_map, Int.not_lt, Int.not_le, Decidable.not_not, gt_iff_lt, ge_iff_le] at *
        · show 0 ≤ (j : Int) ∧ (j : Int) < 36
          omega
        · rename UInt8 => c
          rename _ = some c => hc
          have hc' : dgB.data.toList[j]? = some c := by rw [← ba_get]; exact hc
          have hxc : c = x := UInt8.toNat_inj.1 (by omega)
          refine ⟨j + 1, ?_, by trivial, by omega, by omega⟩
          rw [dvS_next, if_pos (by rw [hc', hxc]), w64 (n := (j : Int) + 1) (by omega)]
          rfl
        · rename UInt8 => c
          rename _ = some c => hc
          have hc' : dgB.data.toList[j]? = some c := by rw [← ba_get]; exact hc
          refine ⟨j + 1, ?_, by trivial, by omega, by omega⟩
          rw [dvS_next, if_neg (fun q => by rw [hc'] at q; exact h (by rw [Option.some.inj q])), w64 (n := (j : Int) + 1) (by omega)]
          rfl
        · have hjk : j = k.toNat := by omega
          rw [hjk] at h
          rw [if_pos h] at e
          have hu : unbS k L = (0, false) := by
            rw [unbS, foldD hx', e]
            exact stU_err _ _ _ rfl
          rw [hu]
          rfl
        · have hjk : j = k.toNat := by omega
          rw [hjk] at h ⊢
          rw [if_neg h] at e
          have e1 : (L.take (i + 1)).foldl (stU k) (0, true) = (IntKind.i64.wrap (IntKind.i64.wrap (((L.take i).foldl (stU k) (0, true)).1 * k) + dvS k x k.toNat), true) := by rw [foldT hx', e]
          refine ⟨i + 1, ?_, by trivial, ⟨by omega, by rw [e1]⟩, by omega⟩
          rw [e1, w64 (n := (i : Int) + 1) (by omega)]
          rfl
    · try simp only [decide_eq_true_eq, decide_eq_false_iff_not, Bool.not_eq_true', Bool.not_eq_false', List.length_map, Int.not_lt, Int.not_le, Decidable.not_not, gt_iff_lt, ge_iff_le] at *
      have h1 : L.take i = L := List.take_of_length_le (by omega)
      rw [h1] at h2 ⊢
      have h2' : (unbS k L).2 = true := h2
      rw [if_pos h2']
      have hwh := maths_whole (unbS k L).1 hub
      repeat' ((conv => whnf); (first | refine csp (fun h => ?_) (fun h => ?_) | refine cll (hwh) (fun _ => ?_) | (refine sda ?_ ?_; (focus (first | rfl | (simp; done)))) | refine sda ?_ ?_ | refine conk rfl ?_ | refine ldk rfl ?_ | refine mapk (fun x hx => ?_) | intro hl))
      all_goals conv => whnf
end Go.Proofs.YtnpcmgajplikbaaGreatDoor

/- MathsBases. -/
set_option maxRecDepth 100000
set_option linter.all false
namespace Go.Proofs.YtnpcmgajplikbaaGreatDoor
open Ab R Go.Proofs.YtnpcmgajplikbaaGreatDoorW.PrintWords
theorem dig_tab : ∀ d : Fin 36, dgB.data.toList[d.val]? = some (UInt8.ofNat (bt Mt.dgT (d.val : Int)).toNat) ∧ X.gUpper (bt Mt.dgT (d.val : Int)) = bt Mt.dgT (d.val : Int) ∧ 0 ≤ bt Mt.dgT (d.val : Int) ∧ bt Mt.dgT (d.val : Int) < 256 := by decide +kernel
theorem dig_inj : ∀ d j : Fin 36, dgB.data.toList[j.val]? = dgB.data.toList[d.val]? → j = d := by decide +kernel
abbrev chv (d : Int) : Int := bt Mt.dgT d
abbrev c8 (d : Int) : UInt8 := UInt8.ofNat (chv d).toNat
theorem dv_dig (b : Int) (d : Nat) (hd : d < 36) : ∀ j : Nat, j ≤ 36 → dvS b (c8 d) j = if d < j then (d : Int) else b
  | 0, _ => by rw [if_neg (by omega)]; rfl
  | j + 1, hj => by
    have h1 := (dig_tab ⟨d, hd⟩).1
    rw [dvS_next, dv_dig b d hd j (by omega)]
    by_cases e : j = d
    · subst e
      rw [if_pos h1, if_pos (by omega)]
    · rw [if_neg (fun q => e (by
        have := dig_inj ⟨d, hd⟩ ⟨j, by omega⟩ (by show dgB.data.toList[j]? = dgB.data.toList[d]?; rw [q]; exact h1.symm)
        exact congrArg Fin.val this))]
      by_cases e2 : d < j
      · rw [if_pos e2, if_pos (by omega)]
      · rw [if_neg e2, if_neg (by omega)]
def horn (b : Int) (n : Int) (l : List Int) : Int := l.foldl (fun n d => n * b + d) n
theorem unb_dig (b : Int) (h2 : 2 ≤ b) (h3 : b ≤ 36) : ∀ (l : List Int) (n : Int) (m : Nat), (∀ d ∈ l, 0 ≤ d ∧ d < b) → 0 ≤ n → n < 36 ^ m → m + l.length ≤ 10 → (l.map c8).foldl (stU b) (n, true) = (horn b n l, true)
  | [], n, m, _, _, _, _ => rfl
  | d :: l, n, m, hl, h0, h1, hm => by
    simp only [List.length_cons] at hm
    obtain ⟨d0, d1⟩ := hl d List.mem_cons_self
    have hdv : dvS b (c8 d) b.toNat = d := by
      have := dv_dig b d.toNat (by omega) b.toNat (by omega)
      rw [show ((d.toNat : Nat) : Int) = d by omega, if_pos (by omega)] at this
      exact this
    have p1 := pow36 m (by omega)
    have p2 := pow36 (m + 1) (by omega)
    have e : (36 : Int) ^ (m + 1) = 36 ^ m * 36 := Int.pow_succ 36 m
    have q1 : n * b ≤ (36 ^ m - 1) * 36 := Int.mul_le_mul (by omega) h3 (by omega) (by omega)
    have q2 : 0 ≤ n * b := Int.mul_nonneg h0 (by omega)
    have e2 : ((36 : Int) ^ m - 1) * 36 = 36 ^ m * 36 - 36 := by rw [Int.sub_mul]; rfl
    rw [List.map_cons, List.foldl_cons, stU, if_neg (by simp), hdv, if_neg (by omega), w64 (n := n * b) (by omega), w64 (by omega)]
    exact unb_dig b h2 h3 l _ (m + 1) (fun x hx => hl x (List.mem_cons_of_mem _ hx)) (by omega) (by omega) (by omega)
def dgv : Nat → Int → Int → List Int → List Int
  | 0, _, _, L => L
  | m + 1, n, b, L => if n > 0 then dgv m (n / b) b (n % b :: L) else L
theorem bdg_dgv (b : Int) : ∀ (m : Nat) (n : Int) (L : List Int), Mt.bdg m n b (L.map chv) = (dgv m n b L).map chv
  | 0, _, _ => rfl
  | m + 1, n, L => by
    unfold Mt.bdg dgv
    split
    · exact bdg_dgv b m (n / b) (n % b :: L)
    · rfl
theorem dgv_ok (b : Int) (h2 : 2 ≤ b) : ∀ (m : Nat) (n : Int) (L : List Int), (∀ d ∈ L, 0 ≤ d ∧ d < b) → ∀ d ∈ dgv m n b L, 0 ≤ d ∧ d < b
  | 0, _, _, h => h
  | m + 1, n, L, h => by
    unfold dgv
    split
    · refine dgv_ok b h2 m (n / b) (n % b :: L) (fun d hd => ?_)
      rcases List.mem_cons.1 hd with rfl | hd
      · exact ⟨Int.emod_nonneg _ (by omega), Int.emod_lt_of_pos _ (by omega)⟩
      · exact h d hd
    · exact h
theorem dgv_horn (b : Int) (h2 : 2 ≤ b) : ∀ (m : Nat) (n : Int) (L : List Int), 0 ≤ n → n < 2 ^ m → horn b 0 (dgv m n b L) = horn b n L
  | 0, n, L, h0, h1 => by
    have : n = 0 := by
      have : (2 : Int) ^ 0 = 1 := rfl
      omega
    rw [this]
    rfl
  | m + 1, n, L, h0, h1 => by
    unfold dgv
    split
    · have hd := Mt.div_half h0 h2 h1
      rw [dgv_horn b h2 m (n / b) (n % b :: L) hd.1 hd.2]
      show horn b (n / b * b + n % b) L = horn b n L
      rw [Int.ediv_mul_add_emod]
    · have : n = 0 := by omega
      rw [this]
theorem chv_tab {d : Int} (h : 0 ≤ d ∧ d < 36) : X.gUpper (chv d) = chv d ∧ 0 ≤ chv d ∧ chv d < 256 := by
  have := dig_tab ⟨d.toNat, by omega⟩
  simp only [show ((d.toNat : Nat) : Int) = d by omega] at this
  exact this.2
theorem son_data (l : List Int) : (strOfNums l).data.toList = l.map fun n => UInt8.ofNat n.toNat := by
  simp only [strOfNums]
theorem up_dig (l : List Int) (h : ∀ d ∈ l, 0 ≤ d ∧ d < 36) : (Vl.up (strOfNums (l.map chv))).data.toList = l.map c8 := by
  unfold Vl.up X.mapS
  rw [son_data, bytesOf, son_data, List.map_map, List.map_map, List.map_map, List.map_map]
  refine List.map_congr_left fun d hd => ?_
  obtain ⟨e1, e2, e3⟩ := chv_tab (h d hd)
  simp only [Function.comp]
  have e4 : ((UInt8.ofNat (chv d).toNat).toNat : Int) = chv d := by
    rw [UInt8.toNat_ofNat']
    omega
  rw [e4, e1]
theorem unb_base {k b : Int} (hk : 0 ≤ k) (hk2 : k < 10000000) (h2 : 2 ≤ b) (h3 : b ≤ 36) (hs : (strOfNums (Mt.bdgs k b)).size ≤ 10) : unbS b (Vl.up (strOfNums (Mt.bdgs k b))).data.toList = (k, true) := by
  have e0 : Mt.bdgs k b = (dgv 37 (k / b) b [k % b]).map chv := bdg_dgv b 37 (k / b) [k % b]
  have ok := dgv_ok b h2 37 (k / b) [k % b] (fun d hd => by
    rw [List.mem_singleton.1 hd]
    exact ⟨Int.emod_nonneg _ (by omega), Int.emod_lt_of_pos _ (by omega)⟩)
  rw [e0] at hs ⊢
  rw [up_dig _ (fun d hd => by have := ok d hd; omega)]
  have hl : (dgv 37 (k / b) b [k % b]).length ≤ 10 := by
    rw [Nm.son_size, List.length_map] at hs
    exact hs
  have hd := Mt.div_le hk h2
  unfold unbS
  rw [unb_dig b h2 h3 _ 0 0 ok (by omega) (by decide) (by omega), dgv_horn b h2 37 (k / b) [k % b] hd.1 (by
    have : (2 : Int) ^ 37 = 137438953472 := by decide
    omega)]
  show (k / b * b + k % b, true) = _
  rw [Int.ediv_mul_add_emod]
theorem bdgs_ne {k b : Int} (hs : (strOfNums (Mt.bdgs k b)) = ⟨#[]⟩) : False := by
  have h1 : ∀ (m : Nat) (n : Int) (L : List Int), L.length ≤ (Mt.bdg m n b L).length := by
    intro m
    induction m with
    | zero => intro n L; exact Nat.le_refl _
    | succ m ih =>
      intro n L
      unfold Mt.bdg
      split
      · have := ih (n / b) (bt Mt.dgT (n % b) :: L)
        simp only [List.length_cons] at this
        omega
      · exact Nat.le_refl _
  have h2 := h1 37 (k / b) [bt Mt.dgT (k % b)]
  have h3 : (strOfNums (Mt.bdgs k b)).size = 0 := by rw [hs]; rfl
  rw [Nm.son_size] at h3
  unfold Mt.bdgs at h3
  simp only [List.length_cons, List.length_nil] at h2
  omega
theorem tx_str {s : ByteArray} : tx ⟨2, 0, s⟩ = (s, 0) := by simp [tx, Vl.ttxt, Vl.txt]
theorem mathsBases_ret (n b : Int) (hn : IntKind.u64.wrap n = n) (hb : IntKind.u64.wrap b = b) : Ret Tryz.prog F_octavolaw17_MathsBases [.int .u64 n, .int .u64 b] (.bool true) := by
  have hk : ∃ k, IntKind.i64.wrap (n.tmod 10000000) = k ∧ 0 ≤ k ∧ k < 10000000 := by
    have h0 : 0 ≤ n := ((wrap_iff .u64 n).1 hn).1
    rw [Int.tmod_eq_emod_of_nonneg h0]
    have e1 := Int.emod_nonneg n (show (10000000 : Int) ≠ 0 by omega)
    have e2 := Int.emod_lt_of_pos n (show (0 : Int) < 10000000 by omega)
    rw [w64 (n := n % 10000000) (by omega)]
    exact ⟨_, rfl, by omega, by omega⟩
  have hm : ∃ m, IntKind.i64.wrap (2 + IntKind.i64.wrap (b.tmod 35)) = m ∧ 2 ≤ m ∧ m ≤ 36 := by
    have h0 : 0 ≤ b := ((wrap_iff .u64 b).1 hb).1
    rw [Int.tmod_eq_emod_of_nonneg h0]
    have e1 := Int.emod_nonneg b (show (35 : Int) ≠ 0 by omega)
    have e2 := Int.emod_lt_of_pos b (show (0 : Int) < 35 by omega)
    rw [w64 (n := b % 35) (by omega), w64 (by omega)]
    exact ⟨_, rfl, by omega, by omega⟩
  obtain ⟨k, hk, k1, k2⟩ := hk
  obtain ⟨m, hm, m1, m2⟩ := hm
  have wk : IntKind.i64.wrap (k * 10000) = k * 10000 := w64 (by omega)
  have wm : IntKind.i64.wrap (m * 10000) = m * 10000 := w64 (by omega)
  have q1 := mask_r _ _ _ (base_any [oA ⟨1, k * 10000, e0⟩, oA ⟨1, m * 10000, e0⟩])
  have hnm : nmS [oA ⟨1, k * 10000, e0⟩, oA ⟨1, m * 10000, e0⟩] [true, true] = ([k, m], 0) := nm_two k1 (by omega) (by omega) (by omega)
  have e1 : ofN [true, true] (two bsS) [oA ⟨1, k * 10000, e0⟩, oA ⟨1, m * 10000, e0⟩] = ⟨2, 0, strOfNums (Mt.bdgs k m)⟩ := by
    have e3 : ofN [true, true] (two bsS) [oA ⟨1, k * 10000, e0⟩, oA ⟨1, m * 10000, e0⟩] = bsS k m := by
      rw [ofN, hnm]
      rfl
    rw [e3, bsS, if_neg (by omega)]
  rw [e1] at q1
  have hsz := bdgs_size k m
  have hgs : goodV ⟨2, 0, strOfNums (Mt.bdgs k m)⟩ = true := by
    simp [goodV]
    omega
  have q2 : (strOfNums (Mt.bdgs k m)).size ≤ 10 → Ret Tryz.prog F_octavolaw17_ask [.str ⟨#[68, 69, 67, 73, 77, 65, 76]⟩, .row false [cA (oA ⟨2, 0, strOfNums (Mt.bdgs k m)⟩), cA (oA ⟨1, m * 10000, e0⟩)]] (eV ⟨1, k * 10000, e0⟩) := fun hle => by
    have hone := one_oA hgs
    have h := unbased_r (oA ⟨2, 0, strOfNums (Mt.bdgs k m)⟩) (oA ⟨1, m * 10000, e0⟩) m (by rw [hone, tx_str]) (by
      show List.foldl stN ([], 0) [(oA ⟨1, m * 10000, e0⟩, true)] = _
      rw [List.foldl_cons, stN_w rfl (by omega) (by omega)]
      rfl) (by rw [goodN, decide_eq_true_eq]; omega)
    have e2 : decS (strOfNums (Mt.bdgs k m)) m = ⟨1, k * 10000, e0⟩ := by
      rw [decS, if_neg (fun q => by
        rcases q with q | q | q | q
        · omega
        · omega
        · exact bdgs_ne q
        · omega), unb_base k1 k2 m1 m2 hle, if_pos rfl]
      exact whM_yes k1 (by omega)
    rw [hone, tx_str] at h
    simp only [e2] at h
    exact mask_r _ _ _ (mcall_f _ _ _ _ mfnd_DECIMAL h)
  rw [← wk, ← wm] at q1
  rw [← wm] at q2
  refine r_octavolaw17_MathsBases rfl fun hw => ?_
  clear hw
  repeat' ((conv => whnf); (first | refine csp (fun h => ?_) (fun h => ?_) | (refine sda ?_ ?_; (focus (first | rfl | (simp; done)))) | refine sda ?_ ?_ | refine conk rfl ?_ | refine ldk rfl ?_ | refine mapk (fun x hx => ?_) | intro hl))
  conv => whnf
  rw [hk, hm]
  repeat' ((conv => whnf); (first | refine csp (fun h => ?_) (fun h => ?_) | refine cll (l17_number _) (fun _ => ?_) | refine cll (q1) (fun _ => ?_) | (refine sda ?_ ?_; (focus (first | rfl | (simp; done)))) | refine sda ?_ ?_ | refine conk rfl ?_ | refine ldk rfl ?_ | refine mapk (fun x hx => ?_) | intro hl))
  · repeat' ((conv => whnf); (first | refine csp (fun h => ?_) (fun h => ?_) | refine cll (l17_lives) (fun _ => ?_) | (refine sda ?_ ?_; (focus (first | rfl | (simp; done)))) | refine sda ?_ ?_ | refine conk rfl ?_ | refine ldk rfl ?_ | refine mapk (fun x hx => ?_) | intro hl))
    all_goals conv => whnf
  · try simp only [decide_eq_true_eq, decide_eq_false_iff_not, Bool.not_eq_true', Bool.not_eq_false', List.length_map, Int.not_lt, Int.not_le, Decidable.not_not, gt_iff_lt, ge_iff_le] at *
    have q3 := q2 (by omega)
    repeat' ((conv => whnf); (first | refine csp (fun h => ?_) (fun h => ?_) | refine cll (l17_one ⟨_, _, _⟩) (fun _ => ?_) | refine cll (l17_number _) (fun _ => ?_) | refine cll (q3) (fun _ => ?_) | refine cll (l17_lives) (fun _ => ?_) | (refine sda ?_ ?_; (focus (first | rfl | (simp; done)))) | refine sda ?_ ?_ | refine conk rfl ?_ | refine ldk rfl ?_ | refine mapk (fun x hx => ?_) | intro hl))
    all_goals conv => whnf
    all_goals try simp only [decide_eq_true_eq, decide_eq_false_iff_not, Bool.not_eq_true', Bool.not_eq_false', List.length_map, Int.not_lt, Int.not_le, Decidable.not_not, gt_iff_lt, ge_iff_le] at *
    simp [wk] at h
end Go.Proofs.YtnpcmgajplikbaaGreatDoor
