/- What the functions answer, and the law. -/
import Derived.Test.YtnpcmgajplikbaaGreatDoorR
import Derived.Test.YtnpcmgajplikbaaGreatDoorB
import Derived.Test.YtnpcmgajplikbaaGreatDoorPl
import Derived.Test.YtnpcmgajplikbaaGreatDoorPx1
/- Values and areas as the program holds them; what the functions of layers 5, 6 and 17 answer of them. -/
set_option maxRecDepth 100000
set_option linter.all false
namespace Go.Proofs.YtnpcmgajplikbaaGreatDoor
open Ab R
theorem cll {P : Program} {g : FuncId} {args : List V} {r : V} {K : V → Prop} (h : Ret P g args r) (k : wfV 8 r → K r) : ∃ r, Ret P g args r ∧ (wfV 8 r → K r) := ⟨r, h, k⟩
theorem sda {p q : Prop} (h : p) (k : q) : Sd p ∧ q := ⟨⟨h⟩, k⟩
theorem conk {els : List (List V)} {i : Nat} {c : List V} {K : List V → Prop} (h : els[i]? = some c) (k : K c) : ∀ cs, els[i]? = some cs → K cs := fun cs hcs => by
  rw [h] at hcs
  rw [← Option.some.inj hcs]
  exact k
theorem ldk {o : Option V} {w : V} {K : V → Prop} (h : o = some w) (k : K w) : ∀ v, o = some v → K v := fun v hv => by
  rw [h] at hv
  rw [← Option.some.inj hv]
  exact k
theorem mapk {α : Type} {l : List α} {f : α → List V} {i : Nat} {K : List V → Prop} (h : ∀ x, l[i]? = some x → K (f x)) : ∀ cs, (l.map f)[i]? = some cs → K cs := fun cs hcs => by
  rw [List.getElem?_map] at hcs
  cases hx : l[i]? with
  | none => rw [hx] at hcs; cases hcs
  | some x => rw [hx] at hcs; obtain rfl := Option.some.inj hcs; exact h x hx
structure GV where
  k : Int
  n : Int
  s : ByteArray
abbrev cV (v : GV) : List V := [.int .i64 v.k, .int .i64 v.n, .str v.s]
abbrev eV (v : GV) : V := .agg (cV v)
structure Ar where
  rows : Int
  cols : Int
  l : List GV
  many : Bool
abbrev cA (a : Ar) : List V := [.int .i64 a.rows, .int .i64 a.cols, .row false (a.l.map cV), .bool a.many]
abbrev eA (a : Ar) : V := .agg (cA a)
abbrev e0 : ByteArray := ⟨#[]⟩
def badS (n : Int) : GV := ⟨4, if n < 1 ∨ n > 8 then 2 else n, e0⟩
theorem value_Bad (n : Int) : Ret Tryz.prog F_value_Bad [.int .i64 n] (eV (badS n)) := by
  refine r_value_Bad rfl fun _ => ?_
  ((conv => whnf); refine csp (fun h => ?_) (fun h => ?_))
  · conv => whnf
    simp_all [badS]
  · ((conv => whnf); refine csp (fun h => ?_) (fun h => ?_))
    · conv => whnf
      simp_all [badS]
    · conv => whnf
      simp_all [badS]
      omega
def goodN (n : Int) : Bool := decide (-100000000000 ≤ n ∧ n ≤ 100000000000)
theorem num_Good (n : Int) : Ret Tryz.prog F_num_Good [.int .i64 n] (.bool (goodN n)) := by
  refine r_num_Good rfl fun _ => ?_
  ((conv => whnf); refine csp (fun h => ?_) (fun h => ?_))
  · conv => whnf
    simp_all [goodN]
  · conv => whnf
    simp_all [goodN]
    try omega
def ofS (n : Int) (ok : Bool) : GV := if ok && goodN n then ⟨1, n, e0⟩ else badS 5
theorem value_Of (n : Int) (ok : Bool) : Ret Tryz.prog F_value_Of [.int .i64 n, .bool ok] (eV (ofS n ok)) := by
  refine r_value_Of rfl fun _ => ?_
  ((conv => whnf); refine csp (fun h => ?_) (fun h => ?_))
  · refine cll (num_Good _) (fun _ => ?_)
    ((conv => whnf); refine csp (fun h => ?_) (fun h => ?_))
    · conv => whnf
      simp_all [ofS]
    · refine cll (value_Bad _) (fun _ => ?_)
      conv => whnf
      simp_all [ofS]
  · refine cll (value_Bad _) (fun _ => ?_)
    conv => whnf
    simp_all [ofS]
/-- The program's own forms of a value. -/
def ownS (v : GV) : V :=
  if v.k = 0 then .iface 68 (.agg []) else if v.k = 1 then .iface 69 (.int .i64 v.n) else if v.k = 2 then .iface 70 (.str v.s)
  else if v.k = 3 then .iface 71 (.bool (!decide (v.n = 0))) else if v.k = 4 then .iface 72 (.int .i64 v.n) else .nilI
theorem value_own (v : GV) : Ret Tryz.prog F_value_own [eV v] (ownS v) := by
  refine r_value_own rfl fun _ => ?_
  ((conv => whnf); refine csp (fun h => ?_) (fun h => ?_))
  · conv => whnf
    simp_all [ownS]
  ((conv => whnf); refine csp (fun h => ?_) (fun h => ?_))
  · conv => whnf
    simp_all [ownS]
  ((conv => whnf); refine csp (fun h => ?_) (fun h => ?_))
  · conv => whnf
    simp_all [ownS]
  ((conv => whnf); refine csp (fun h => ?_) (fun h => ?_))
  · conv => whnf
    simp_all [ownS]
  ((conv => whnf); refine csp (fun h => ?_) (fun h => ?_))
  · conv => whnf
    simp_all [ownS]
  conv => whnf
  simp_all [ownS]
def goodV (v : GV) : Bool :=
  if v.k = 0 then decide (v.n = 0 ∧ v.s = e0) else if v.k = 1 then goodN v.n && decide (v.s = e0) else if v.k = 2 then decide (v.n = 0 ∧ v.s.size ≤ 255)
  else if v.k = 3 then decide ((v.n = 0 ∨ v.n = 1) ∧ v.s = e0) else if v.k = 4 then decide (1 ≤ v.n ∧ v.n ≤ 8 ∧ v.s = e0) else false
theorem own0 {v : GV} (h : v.k = 0) : Ret Tryz.prog F_value_own [eV v] (.iface 68 (.agg [])) := by have := value_own v; simpa [ownS, h] using this
theorem own1 {v : GV} (h : v.k = 1) : Ret Tryz.prog F_value_own [eV v] (.iface 69 (.int .i64 v.n)) := by have := value_own v; simpa [ownS, h] using this
theorem own2 {v : GV} (h : v.k = 2) : Ret Tryz.prog F_value_own [eV v] (.iface 70 (.str v.s)) := by have := value_own v; simpa [ownS, h] using this
theorem own3 {v : GV} (h : v.k = 3) : Ret Tryz.prog F_value_own [eV v] (.iface 71 (.bool (!decide (v.n = 0)))) := by have := value_own v; simpa [ownS, h] using this
theorem own4 {v : GV} (h : v.k = 4) : Ret Tryz.prog F_value_own [eV v] (.iface 72 (.int .i64 v.n)) := by have := value_own v; simpa [ownS, h] using this
theorem own5 {v : GV} (h : ¬ v.k = 0) (h1 : ¬ v.k = 1) (h2 : ¬ v.k = 2) (h3 : ¬ v.k = 3) (h4 : ¬ v.k = 4) : Ret Tryz.prog F_value_own [eV v] .nilI := by have := value_own v; simpa [ownS, h, h1, h2, h3, h4] using this
theorem value_Good (v : GV) : Ret Tryz.prog F_value_Good [eV v] (.bool (goodV v)) := by
  obtain ⟨k, n, s⟩ := v
  by_cases h0 : k = 0
  · subst h0
    refine r_value_Good rfl fun _ => ?_
    repeat' ((conv => whnf); (first | refine csp (fun h => ?_) (fun h => ?_) | refine cll (own0 rfl) (fun _ => ?_) | refine cll (num_Good _) (fun _ => ?_) | (refine sda ?_ ?_; (focus (first | rfl | (simp; done)))) | refine sda ?_ ?_ | refine conk rfl ?_ | refine ldk rfl ?_ | refine mapk (fun x hx => ?_) | intro hl))
    all_goals conv => whnf
    all_goals simp_all [goodV]
  by_cases h1 : k = 1
  · subst h1
    refine r_value_Good rfl fun _ => ?_
    repeat' ((conv => whnf); (first | refine csp (fun h => ?_) (fun h => ?_) | refine cll (own1 rfl) (fun _ => ?_) | refine cll (num_Good _) (fun _ => ?_) | (refine sda ?_ ?_; (focus (first | rfl | (simp; done)))) | refine sda ?_ ?_ | refine conk rfl ?_ | refine ldk rfl ?_ | refine mapk (fun x hx => ?_) | intro hl))
    all_goals conv => whnf
    all_goals simp_all [goodV]
  by_cases h2 : k = 2
  · subst h2
    refine r_value_Good rfl fun _ => ?_
    repeat' ((conv => whnf); (first | refine csp (fun h => ?_) (fun h => ?_) | refine cll (own2 rfl) (fun _ => ?_) | refine cll (num_Good _) (fun _ => ?_) | (refine sda ?_ ?_; (focus (first | rfl | (simp; done)))) | refine sda ?_ ?_ | refine conk rfl ?_ | refine ldk rfl ?_ | refine mapk (fun x hx => ?_) | intro hl))
    all_goals conv => whnf
    all_goals simp_all [goodV]
    all_goals omega
  by_cases h3 : k = 3
  · subst h3
    refine r_value_Good rfl fun _ => ?_
    repeat' ((conv => whnf); (first | refine csp (fun h => ?_) (fun h => ?_) | refine cll (own3 rfl) (fun _ => ?_) | refine cll (num_Good _) (fun _ => ?_) | (refine sda ?_ ?_; (focus (first | rfl | (simp; done)))) | refine sda ?_ ?_ | refine conk rfl ?_ | refine ldk rfl ?_ | refine mapk (fun x hx => ?_) | intro hl))
    all_goals conv => whnf
    all_goals simp_all [goodV]
  by_cases h4 : k = 4
  · subst h4
    refine r_value_Good rfl fun _ => ?_
    repeat' ((conv => whnf); (first | refine csp (fun h => ?_) (fun h => ?_) | refine cll (own4 rfl) (fun _ => ?_) | refine cll (num_Good _) (fun _ => ?_) | (refine sda ?_ ?_; (focus (first | rfl | (simp; done)))) | refine sda ?_ ?_ | refine conk rfl ?_ | refine ldk rfl ?_ | refine mapk (fun x hx => ?_) | intro hl))
    all_goals conv => whnf
    all_goals simp_all [goodV]
    all_goals omega
  · refine r_value_Good rfl fun _ => ?_
    repeat' ((conv => whnf); (first | refine csp (fun h => ?_) (fun h => ?_) | refine cll (own5 h0 h1 h2 h3 h4) (fun _ => ?_) | (refine sda ?_ ?_; (focus (first | rfl | (simp; done)))) | refine sda ?_ ?_ | refine conk rfl ?_ | refine ldk rfl ?_ | refine mapk (fun x hx => ?_) | intro hl))
    all_goals conv => whnf
    all_goals simp_all [goodV]
/-- The number of a value, or the error's; a text is not asked. -/
def toNumS (v : GV) : Int × Int := if v.k = 0 then (0, 0) else if v.k = 1 then (v.n, 0) else if v.k = 3 then (if v.n = 0 then 0 else 10000, 0) else if v.k = 4 then (0, v.n) else (0, 2)
theorem value_ToNum (v : GV) (h2 : ¬ v.k = 2) : Ret Tryz.prog F_value_ToNum [eV v] (.tup [.int .i64 (toNumS v).1, .int .i64 (toNumS v).2]) := by
  obtain ⟨k, n, s⟩ := v
  by_cases h0 : k = 0
  · subst h0
    refine r_value_ToNum rfl fun _ => ?_
    repeat' ((conv => whnf); (first | refine csp (fun h => ?_) (fun h => ?_) | refine cll (own0 rfl) (fun _ => ?_) | (refine sda ?_ ?_; (focus (first | rfl | (simp; done)))) | refine sda ?_ ?_ | refine conk rfl ?_ | refine ldk rfl ?_ | refine mapk (fun x hx => ?_) | intro hl))
    all_goals conv => whnf
    all_goals simp_all [toNumS]
  by_cases h1 : k = 1
  · subst h1
    refine r_value_ToNum rfl fun _ => ?_
    repeat' ((conv => whnf); (first | refine csp (fun h => ?_) (fun h => ?_) | refine cll (own1 rfl) (fun _ => ?_) | (refine sda ?_ ?_; (focus (first | rfl | (simp; done)))) | refine sda ?_ ?_ | refine conk rfl ?_ | refine ldk rfl ?_ | refine mapk (fun x hx => ?_) | intro hl))
    all_goals conv => whnf
    all_goals simp_all [toNumS]
  by_cases h3 : k = 3
  · subst h3
    refine r_value_ToNum rfl fun _ => ?_
    repeat' ((conv => whnf); (first | refine csp (fun h => ?_) (fun h => ?_) | refine cll (own3 rfl) (fun _ => ?_) | (refine sda ?_ ?_; (focus (first | rfl | (simp; done)))) | refine sda ?_ ?_ | refine conk rfl ?_ | refine ldk rfl ?_ | refine mapk (fun x hx => ?_) | intro hl))
    all_goals conv => whnf
    all_goals simp_all [toNumS]
  by_cases h4 : k = 4
  · subst h4
    refine r_value_ToNum rfl fun _ => ?_
    repeat' ((conv => whnf); (first | refine csp (fun h => ?_) (fun h => ?_) | refine cll (own4 rfl) (fun _ => ?_) | (refine sda ?_ ?_; (focus (first | rfl | (simp; done)))) | refine sda ?_ ?_ | refine conk rfl ?_ | refine ldk rfl ?_ | refine mapk (fun x hx => ?_) | intro hl))
    all_goals conv => whnf
    all_goals simp_all [toNumS]
  · refine r_value_ToNum rfl fun _ => ?_
    repeat' ((conv => whnf); (first | refine csp (fun h => ?_) (fun h => ?_) | refine cll (own5 h0 h1 h2 h3 h4) (fun _ => ?_) | (refine sda ?_ ?_; (focus (first | rfl | (simp; done)))) | refine sda ?_ ?_ | refine conk rfl ?_ | refine ldk rfl ?_ | refine mapk (fun x hx => ?_) | intro hl))
    all_goals conv => whnf
    all_goals simp_all [toNumS]
def goodA (a : Ar) : Bool := decide (1 ≤ a.rows ∧ 1 ≤ a.cols ∧ a.rows ≤ 4096 ∧ a.cols ≤ 4096 ∧ (a.l.length : Int) = a.rows * a.cols) && a.l.all goodV
theorem take_good {l : List GV} {i : Nat} {x : GV} {p : GV → Bool} (hx : l[i]? = some x) (h : (l.take i).all p = true) (hp : p x = true) : (l.take (i + 1)).all p = true := by
  rw [List.take_add_one, hx]
  simp only [Option.toList, List.all_append, h, List.all_cons, hp, List.all_nil, Bool.and_self]
theorem w64 {n : Int} (h : -9223372036854775808 ≤ n ∧ n ≤ 9223372036854775807) : IntKind.i64.wrap n = n := (wrap_iff .i64 n).2 (by simp only [kLo, kHi]; omega)
theorem mulb {r c : Int} (h1 : 1 ≤ r) (h2 : r ≤ 4096) (h3 : 1 ≤ c) (h4 : c ≤ 4096) : 1 ≤ r * c ∧ r * c ≤ 16777216 :=
  ⟨by have := Int.mul_le_mul h1 h3 (by omega) (by omega); omega, by have := Int.mul_le_mul h2 h4 (by omega) (by omega); omega⟩
theorem goodA_no {a : Ar} {i : Nat} {x : GV} (hx : a.l[i]? = some x) (h : goodV x = false) : goodA a = false := by
  unfold goodA
  rw [Bool.and_eq_false_iff]
  right
  rw [List.all_eq_false]
  exact ⟨x, List.mem_of_getElem? hx, by simp [h]⟩
theorem goodA_bad {a : Ar} (h : ¬ (1 ≤ a.rows ∧ 1 ≤ a.cols ∧ a.rows ≤ 4096 ∧ a.cols ≤ 4096 ∧ (a.l.length : Int) = a.rows * a.cols)) : goodA a = false := by
  unfold goodA
  rw [decide_eq_false h, Bool.false_and]
theorem goodA_yes {a : Ar} (h : 1 ≤ a.rows ∧ 1 ≤ a.cols ∧ a.rows ≤ 4096 ∧ a.cols ≤ 4096 ∧ (a.l.length : Int) = a.rows * a.cols) (hl : a.l.all goodV = true) : goodA a = true := by
  unfold goodA
  rw [decide_eq_true h, hl, Bool.true_and]
theorem maths_Good (a : Ar) : Ret Tryz.prog F_maths_Good [eA a] (.bool (goodA a)) := by
  refine r_maths_Good rfl fun hw => ?_
  clear hw
  repeat' ((conv => whnf); (first | refine csp (fun h => ?_) (fun h => ?_) | (refine sda ?_ ?_; (focus (first | rfl | (simp; done)))) | refine sda ?_ ?_ | refine conk rfl ?_ | refine ldk rfl ?_ | refine mapk (fun x hx => ?_) | intro hl))
  rotate_right
  · try simp only [decide_eq_true_eq, decide_eq_false_iff_not, Bool.not_eq_true', Bool.not_eq_false', List.length_map, Int.not_lt, Int.not_le, Decidable.not_not, gt_iff_lt, ge_iff_le] at *
    have hm := mulb (r := a.rows) (c := a.cols) (by omega) (by omega) (by omega) (by omega)
    have hL : (a.l.length : Int) = a.rows * a.cols := by
      have := w64 (n := a.rows * a.cols) (by omega)
      omega
    refine ⟨Int, [35, 36, 37], [], fun i => [(35, .row false (a.l.map cV)), (36, .int .i64 a.l.length), (37, .int .i64 i)], fun _ => [], fun i => 0 ≤ i ∧ i ≤ a.l.length ∧ (a.l.take i.toNat).all goodV = true, fun i => (a.l.length - i).toNat, rfl, ?_, fun i hi => ?_⟩
    · exact ⟨0, rfl, rfl, by simp⟩
    · obtain ⟨hi0, hi1, hi2⟩ := hi
      repeat' ((conv => whnf); (first | refine csp (fun h => ?_) (fun h => ?_) | refine cll (value_Good _) (fun _ => ?_) | (refine sda ?_ ?_; (focus (first | rfl | (simp; done)))) | refine sda ?_ ?_ | refine conk rfl ?_ | refine ldk rfl ?_ | refine mapk (fun x hx => ?_) | intro hl))
      · try simp only [decide_eq_true_eq, decide_eq_false_iff_not, Bool.not_eq_true', Bool.not_eq_false', List.length_map, Int.not_lt, Int.not_le, Decidable.not_not, gt_iff_lt, ge_iff_le] at *
        omega
      · conv => whnf
        rw [goodA_no hx (by simpa using h)]
      · conv => whnf
        try simp only [decide_eq_true_eq, decide_eq_false_iff_not, Bool.not_eq_true', Bool.not_eq_false', List.length_map, Int.not_lt, Int.not_le, Decidable.not_not, gt_iff_lt, ge_iff_le] at *
        have hw1 := w64 (n := i + 1) (by omega)
        refine ⟨i + 1, by rw [hw1], by trivial, ⟨by omega, by omega, ?_⟩, by omega⟩
        rw [show (i + 1).toNat = i.toNat + 1 by omega]
        exact take_good hx hi2 h
      · conv => whnf
        try simp only [decide_eq_true_eq, decide_eq_false_iff_not, Bool.not_eq_true', Bool.not_eq_false', List.length_map, Int.not_lt, Int.not_le, Decidable.not_not, gt_iff_lt, ge_iff_le] at *
        rw [goodA_yes (by omega)]
        have : a.l.take i.toNat = a.l := List.take_of_length_le (by omega)
        rwa [this] at hi2
  all_goals conv => whnf
  all_goals try simp only [decide_eq_true_eq, decide_eq_false_iff_not, Bool.not_eq_true', Bool.not_eq_false', List.length_map, Int.not_lt, Int.not_le, Decidable.not_not, gt_iff_lt, ge_iff_le] at *
  · rw [goodA_bad (by omega)]
  · rw [goodA_bad (by omega)]
  · rw [goodA_bad (by omega)]
  · rw [goodA_bad (by omega)]
  · have hm := mulb (r := a.rows) (c := a.cols) (by omega) (by omega) (by omega) (by omega)
    rw [w64 (by omega)] at h
    rw [goodA_bad (by omega)]
end Go.Proofs.YtnpcmgajplikbaaGreatDoor

/- One value of an area, whole numbers. -/
set_option maxRecDepth 100000
set_option linter.all false
namespace Go.Proofs.YtnpcmgajplikbaaGreatDoor
open Ab R
def oneS (a : Ar) : GV := if a.l.length = 1 ∧ goodA a = true then a.l.headD ⟨0, 0, e0⟩ else badS 2
theorem maths_One (a : Ar) : Ret Tryz.prog F_maths_One [eA a] (eV (oneS a)) := by
  refine r_maths_One rfl fun hw => ?_
  clear hw
  repeat' ((conv => whnf); (first | refine csp (fun h => ?_) (fun h => ?_) | refine cll (maths_Good _) (fun _ => ?_) | refine cll (value_Bad _) (fun _ => ?_) | (refine sda ?_ ?_; (focus (first | rfl | (simp; done)))) | refine sda ?_ ?_ | refine conk rfl ?_ | refine ldk rfl ?_ | refine mapk (fun x hx => ?_) | intro hl))
  all_goals conv => whnf
  all_goals try simp only [decide_eq_true_eq, decide_eq_false_iff_not, Bool.not_eq_true', Bool.not_eq_false', List.length_map, Int.not_lt, Int.not_le, Decidable.not_not, gt_iff_lt, ge_iff_le] at *
  · rw [oneS, if_neg (fun q => by omega)]
  · rw [oneS, if_neg (by rw [h]; simp)]
  · omega
  · obtain ⟨r, c, l, m⟩ := a
    cases l with
    | nil => cases hx
    | cons y l =>
      cases hx
      rw [oneS, if_pos ⟨by omega, h⟩]
      rfl
def wholeS (n : Int) : Int × Bool := if goodN n = true ∧ n.tmod 10000 = 0 then (n.tdiv 10000, true) else (0, false)
theorem tdivb {n : Int} (h : goodN n = true) : -10000000 ≤ n.tdiv 10000 ∧ n.tdiv 10000 ≤ 10000000 := by
  simp only [goodN, decide_eq_true_eq] at h
  rw [Int.tdiv_eq_ediv]
  split
  · omega
  · simp only [show Int.sign 10000 = 1 from rfl]
    omega
theorem num_Whole (n : Int) : Ret Tryz.prog F_num_Whole [.int .i64 n] (.tup [.int .i64 (wholeS n).1, .bool (wholeS n).2]) := by
  refine r_num_Whole rfl fun hw => ?_
  clear hw
  repeat' ((conv => whnf); (first | refine csp (fun h => ?_) (fun h => ?_) | refine cll (num_Good _) (fun _ => ?_) | (refine sda ?_ ?_; (focus (first | rfl | (simp; done)))) | refine sda ?_ ?_ | refine conk rfl ?_ | refine ldk rfl ?_ | refine mapk (fun x hx => ?_) | intro hl))
  all_goals conv => whnf
  all_goals try simp only [decide_eq_true_eq, decide_eq_false_iff_not, Bool.not_eq_true', Bool.not_eq_false', List.length_map, Int.not_lt, Int.not_le, Decidable.not_not, gt_iff_lt, ge_iff_le] at *
  · rw [wholeS, if_neg (by simp [h])]
  · rw [wholeS, if_neg (fun q => h q.2)]
  · have h1 : goodN n = true := by assumption
    have := tdivb h1
    rw [wholeS, if_pos ⟨h1, h⟩, w64 (by omega)]
theorem goodA_out {a : Ar} (h : goodA a = true) : (1 ≤ a.rows ∧ 1 ≤ a.cols ∧ a.rows ≤ 4096 ∧ a.cols ≤ 4096 ∧ (a.l.length : Int) = a.rows * a.cols) ∧ a.l.all goodV = true := by
  unfold goodA at h
  simp only [Bool.and_eq_true, decide_eq_true_eq] at h
  exact h
theorem bytesb {a b : Nat} (h1 : a ≤ 11) (h2 : Nat.ble b 1000 = true) : Nat.le (a * b) 140737488355327 := by
  have := Nat.le_of_ble_eq_true h2
  have := Nat.mul_le_mul h1 this
  show a * b ≤ 140737488355327
  omega
end Go.Proofs.YtnpcmgajplikbaaGreatDoor

/- Values with texts: what they are turned into, out of the walks. -/
set_option maxRecDepth 100000
set_option linter.all false
namespace Go.Proofs.YtnpcmgajplikbaaGreatDoor
open Ab R
theorem goodV_size {v : GV} (h : goodV v = true) : v.s.size ≤ 255 := by
  unfold goodV at h
  split at h
  · simp only [decide_eq_true_eq] at h; rw [h.2]; decide
  · split at h
    · simp only [Bool.and_eq_true, decide_eq_true_eq] at h; rw [h.2]; decide
    · split at h
      · simp only [decide_eq_true_eq] at h; exact h.2
      · split at h
        · simp only [decide_eq_true_eq] at h; rw [h.2]; decide
        · split at h
          · simp only [decide_eq_true_eq] at h; rw [h.2.2]; decide
          · cases h
theorem goodV_bad (n : Int) : goodV (badS n) = true := by
  unfold goodV badS
  simp
  split <;> omega
theorem oneS_good (a : Ar) : goodV (oneS a) = true := by
  unfold oneS
  split
  · rename_i h
    obtain ⟨h1, h2⟩ := h
    have h3 := (goodA_out h2).2
    match hl : a.l, h1 with
    | [x], _ => rw [hl] at h3; simpa using h3
  · exact goodV_bad 2
theorem prs_good (s : ByteArray) : -100000000000 ≤ (Vl.tnum 2 0 s).1 ∧ (Vl.tnum 2 0 s).1 ≤ 100000000000 := by
  have out_b : ∀ n : Int, -100000000000 ≤ (Nm.out n).1 ∧ (Nm.out n).1 ≤ 100000000000 := fun n => by
    unfold Nm.out
    split
    · rename_i h; exact h
    · simp
  have fin_b : ∀ b W R p, -100000000000 ≤ (Nm.fin b W R p).1 ∧ (Nm.fin b W R p).1 ≤ 100000000000 := fun b W R p => by
    unfold Nm.fin
    split
    · exact out_b _
    · simp
  have : -100000000000 ≤ (Nm.prs s).1 ∧ (Nm.prs s).1 ≤ 100000000000 := by
    unfold Nm.prs
    split
    · exact fin_b _ _ _ _
    · exact fin_b _ _ _ _
  show -100000000000 ≤ (if (Nm.prs s).2 = true then ((Nm.prs s).1, 0) else (0, 2) : Int × Int).1 ∧ (if (Nm.prs s).2 = true then ((Nm.prs s).1, 0) else (0, 2) : Int × Int).1 ≤ 100000000000
  split
  · exact this
  · simp
/-- A value's number, or its error. -/
abbrev tn (v : GV) : Int × Int := Vl.tnum v.k v.n v.s
theorem tn_good {v : GV} (h : goodV v = true) : goodN (tn v).1 = true ∧ 0 ≤ (tn v).2 ∧ (tn v).2 ≤ 8 ∧ ((tn v).2 ≠ 0 → (tn v).1 = 0) := by
  obtain ⟨k, n, s⟩ := v
  have hp := prs_good s
  unfold goodV at h
  simp only [tn, Vl.tnum] at *
  by_cases h0 : k = 0
  · subst h0
    simp [goodN]
  by_cases h1 : k = 1
  · subst h1
    simp at h ⊢
    exact h.1
  by_cases h3 : k = 3
  · subst h3
    simp only [if_neg h0, if_neg h1]
    simp
    split <;> simp [goodN]
  by_cases h2 : k = 2
  · subst h2
    simp only [if_neg h0, if_neg h1, if_neg h3] at *
    simp at hp ⊢
    split
    · rename_i hh
      rw [if_pos hh] at hp
      simpa [goodN] using hp
    · simp [goodN]
  by_cases h4 : k = 4
  · subst h4
    simp at h ⊢
    simp [goodN]
    omega
  simp [h0, h1, h2, h3, h4] at h
theorem ToNum_g (v : GV) (h : goodV v = true) : Ret Tryz.prog F_value_ToNum [eV v] (.tup [.int .i64 (tn v).1, .int .i64 (tn v).2]) := by
  have hs := goodV_size h
  obtain ⟨b1, b2, b3, _⟩ := tn_good h
  simp only [goodN, decide_eq_true_eq] at b1
  exact c_value_ToNum v.k v.n v.s (tn v).1 (tn v).2 (Vl.ToNum_is (by omega)) (w64 (by omega)) (w64 (by omega))
end Go.Proofs.YtnpcmgajplikbaaGreatDoor

/- Layer 17: arguments as numbers. -/
set_option maxRecDepth 100000
set_option linter.all false
namespace Go.Proofs.YtnpcmgajplikbaaGreatDoor
open Ab R
abbrev cT (b : Bool) : List V := [.bool b]
abbrev cI (n : Int) : List V := [.int .i64 n]
theorem foldT {α β : Type} {f : β → α → β} {b : β} {l : List α} {i : Nat} {x : α} (hx : l[i]? = some x) : (l.take (i + 1)).foldl f b = f ((l.take i).foldl f b) x := by
  rw [List.take_add_one, hx]
  simp [List.foldl_append]
theorem foldD {α β : Type} {f : β → α → β} {b : β} {l : List α} {i : Nat} {x : α} (hx : l[i]? = some x) : l.foldl f b = (l.drop (i + 1)).foldl f (f ((l.take i).foldl f b) x) := by
  conv => lhs; rw [← List.take_append_drop (i + 1) l]
  rw [List.foldl_append, foldT hx]
/-- Arguments as numbers (where it is said, whole ones), or the first error. -/
def stN (st : List Int × Int) (p : Ar × Bool) : List Int × Int :=
  if st.2 ≠ 0 then st else if 0 < (tn (oneS p.1)).2 then ([], (tn (oneS p.1)).2) else if p.2 = true then (if (wholeS (tn (oneS p.1)).1).2 = true then (st.1 ++ [(wholeS (tn (oneS p.1)).1).1], 0) else ([], 5)) else (st.1 ++ [(tn (oneS p.1)).1], 0)
def nmS (l : List Ar) (ws : List Bool) : List Int × Int := (l.zip ws).foldl stN ([], 0)
theorem stN_err : ∀ (l : List (Ar × Bool)) (st : List Int × Int), st.2 ≠ 0 → l.foldl stN st = st
  | [], _, _ => rfl
  | v :: l, st, h => by rw [List.foldl_cons, stN, if_pos h]; exact stN_err l st h
theorem zip_at {l : List Ar} {ws : List Bool} {n : Nat} {x : Ar} {b : Bool} (h1 : l[n]? = some x) (h2 : ws[n]? = some b) : (l.zip ws)[n]? = some (x, b) := by
  rw [List.getElem?_zip_eq_some]
  exact ⟨h1, h2⟩
theorem nmS_err {l : List Ar} {ws : List Bool} {n : Nat} {x : Ar} {b : Bool} (hx : l[n]? = some x) (hb : ws[n]? = some b) (he : (stN (((l.zip ws).take n).foldl stN ([], 0)) (x, b)).2 ≠ 0) : nmS l ws = stN (((l.zip ws).take n).foldl stN ([], 0)) (x, b) := by
  rw [nmS, foldD (zip_at hx hb)]
  exact stN_err _ _ he
theorem numbers_far (l : List Ar) (ws : List Bool) (hl : l.length ≠ ws.length) : Ret Tryz.prog F_maths_numbers [.row false (l.map cA), .row false (ws.map cT)] (.tup [.row false [], eV (badS 2), .bool false]) := by
  refine r_maths_numbers rfl fun hw => ?_
  clear hw
  repeat' ((conv => whnf); (first | refine csp (fun h => ?_) (fun h => ?_) | refine cll (value_Bad _) (fun _ => ?_) | (refine sda ?_ ?_; (focus (first | rfl | (simp; done)))) | refine sda ?_ ?_ | refine conk rfl ?_ | refine ldk rfl ?_ | refine mapk (fun x hx => ?_) | intro hl))
  all_goals conv => whnf
  all_goals try simp only [decide_eq_true_eq, decide_eq_false_iff_not, Bool.not_eq_true', Bool.not_eq_false', List.length_map, Int.not_lt, Int.not_le, Decidable.not_not, gt_iff_lt, ge_iff_le] at *
  exfalso
  omega
theorem numbers_r (l : List Ar) (ws : List Bool) (hl : l.length = ws.length) (hs : l.length ≤ 10) : Ret Tryz.prog F_maths_numbers [.row false (l.map cA), .row false (ws.map cT)] (.tup [.row false ((nmS l ws).1.map cI), eV (if (nmS l ws).2 = 0 then ⟨0, 0, e0⟩ else badS (nmS l ws).2), .bool (decide ((nmS l ws).2 = 0))]) := by
  refine r_maths_numbers rfl fun hw => ?_
  clear hw
  repeat' ((conv => whnf); (first | refine csp (fun h => ?_) (fun h => ?_) | refine cll (value_Bad _) (fun _ => ?_) | (refine sda ?_ ?_; (focus (first | rfl | (simp; done)))) | refine sda ?_ ?_ | refine conk rfl ?_ | refine ldk rfl ?_ | refine mapk (fun x hx => ?_) | intro hl))
  · conv => whnf
    try simp only [decide_eq_true_eq, decide_eq_false_iff_not, Bool.not_eq_true', Bool.not_eq_false', List.length_map, Int.not_lt, Int.not_le, Decidable.not_not, gt_iff_lt, ge_iff_le] at *
    exfalso
    omega
  refine ⟨Nat, [1, 5, 7, 20, 21, 22], [0, 3], fun n => [(1, .row false (ws.map cT)), (5, .ptr 0 0), (7, match n with | 0 => .row true [] | n + 1 => .sl 1 0 (n + 1)), (20, .row false (l.map cA)), (21, .int .i64 (l.map cA).length), (22, .int .i64 n)], fun n => [.box true (cV ⟨0, 0, e0⟩), match n with | 0 => .gone | n + 1 => .arr true 1 ((((l.zip ws).take (n + 1)).foldl stN ([], 0)).1.map cI)], fun n => n ≤ l.length ∧ (((l.zip ws).take n).foldl stN ([], 0)).2 = 0 ∧ (((l.zip ws).take n).foldl stN ([], 0)).1.length = n, fun n => l.length - n, rfl, ?_, fun n hn => ?_⟩
  · exact ⟨0, rfl, rfl, Nat.zero_le _, rfl, rfl⟩
  · obtain ⟨hn1, hn2, hn3⟩ := hn
    cases n with
    | zero =>
      repeat' ((conv => whnf); (first | refine csp (fun h => ?_) (fun h => ?_) | refine cll (maths_One _) (fun _ => ?_) | refine cll (ToNum_g _ (oneS_good _)) (fun _ => ?_) | refine cll (num_Whole _) (fun _ => ?_) | refine cll (value_Bad _) (fun _ => ?_) | (refine sda ?_ ?_; (focus (first | rfl | (simp; done)))) | refine sda ?_ ?_ | refine conk rfl ?_ | refine ldk rfl ?_ | refine mapk (fun x hx => ?_) | intro hl))
      all_goals conv => whnf
      all_goals try simp only [decide_eq_true_eq, decide_eq_false_iff_not, Bool.not_eq_true', Bool.not_eq_false', List.length_map, Int.not_lt, Int.not_le, Decidable.not_not, gt_iff_lt, ge_iff_le] at *
      · omega
      · rename Ar => y
        rename l[_]? = some y => hy
        have hy' : l[0]? = some y := hy
        obtain ⟨b, hb⟩ : ∃ b, ws[0]? = some b := ⟨_, List.getElem?_eq_getElem (by omega)⟩
        have e : stN (((l.zip ws).take (0)).foldl stN ([], 0)) (y, b) = ([], (tn (oneS y)).2) := by rw [stN, if_neg (by rw [hn2]; simp), if_pos h]
        have e2 := nmS_err hy' hb (by rw [e]; simp only; omega)
        rw [e2, e, if_neg (by simp only; omega), decide_eq_false (by simp only; omega)]
        rfl
      · omega
      · rename Ar => y
        rename l[_]? = some y => hy
        have hy' : l[0]? = some y := hy
        rename Bool => b
        rename ws[_]? = some b => hb
        have hb' : ws[0]? = some b := hb
        rename b = true => hbt
        have e : stN (((l.zip ws).take (0)).foldl stN ([], 0)) (y, b) = ([], 5) := by rw [stN, if_neg (by rw [hn2]; simp), if_neg (by simp only; omega), if_pos hbt, if_neg (by simp [h])]
        have e2 := nmS_err hy' hb' (by rw [e]; simp)
        rw [e2, e]
        rfl
      · rename Ar => y
        rename _ ∈ setAt _ _ _ => hm
        have hm : _ ∈ [cI (wholeS (tn (oneS y)).1).1] := hm
        rw [List.mem_singleton.1 hm]
        rfl
      · exact Nat.le_of_ble_eq_true (by kernel_rfl)
      · rename Ar => y
        rename l[_]? = some y => hy
        have hy' : l[0]? = some y := hy
        rename Bool => b
        rename ws[_]? = some b => hb
        have hb' : ws[0]? = some b := hb
        rename b = true => hbt
        have e : stN (((l.zip ws).take (0)).foldl stN ([], 0)) (y, b) = ((((l.zip ws).take (0)).foldl stN ([], 0)).1 ++ [(wholeS (tn (oneS y)).1).1], 0) := by rw [stN, if_neg (by rw [hn2]; simp), if_neg (by simp only; omega), if_pos hbt, if_pos (by assumption)]
        have e1 : ((l.zip ws).take (0 + 1)).foldl stN ([], 0) = ((((l.zip ws).take (0)).foldl stN ([], 0)).1 ++ [(wholeS (tn (oneS y)).1).1], 0) := by rw [foldT (zip_at hy' hb'), e]
        refine ⟨1, rfl, ?_, ⟨by omega, by rw [e1], by rw [e1]; rfl⟩, by omega⟩
        show [O.box true (cV ⟨0, 0, e0⟩), O.arr true 1 [cI (wholeS (tn (oneS y)).1).1]] = [O.box true (cV ⟨0, 0, e0⟩), O.arr true 1 ((((l.zip ws).take 1).foldl stN ([], 0)).1.map cI)]
        rw [e1]
        rfl
      · rename Ar => y
        rename _ ∈ setAt _ _ _ => hm
        have hm : _ ∈ [cI (tn (oneS y)).1] := hm
        rw [List.mem_singleton.1 hm]
        rfl
      · exact Nat.le_of_ble_eq_true (by kernel_rfl)
      · rename Ar => y
        rename l[_]? = some y => hy
        have hy' : l[0]? = some y := hy
        rename Bool => b
        rename ws[_]? = some b => hb
        have hb' : ws[0]? = some b := hb
        rename b = false => hbt
        have e : stN (((l.zip ws).take (0)).foldl stN ([], 0)) (y, b) = ((((l.zip ws).take (0)).foldl stN ([], 0)).1 ++ [(tn (oneS y)).1], 0) := by rw [stN, if_neg (by rw [hn2]; simp), if_neg (by simp only; omega), if_neg (by rw [hbt]; simp)]
        have e1 : ((l.zip ws).take (0 + 1)).foldl stN ([], 0) = ((((l.zip ws).take (0)).foldl stN ([], 0)).1 ++ [(tn (oneS y)).1], 0) := by rw [foldT (zip_at hy' hb'), e]
        refine ⟨1, rfl, ?_, ⟨by omega, by rw [e1], by rw [e1]; rfl⟩, by omega⟩
        show [O.box true (cV ⟨0, 0, e0⟩), O.arr true 1 [cI (tn (oneS y)).1]] = [O.box true (cV ⟨0, 0, e0⟩), O.arr true 1 ((((l.zip ws).take 1).foldl stN ([], 0)).1.map cI)]
        rw [e1]
        rfl
      · obtain rfl : l = [] := List.eq_nil_of_length_eq_zero (by omega)
        rfl
    | succ n =>
      repeat' ((conv => whnf); (first | refine csp (fun h => ?_) (fun h => ?_) | refine cll (maths_One _) (fun _ => ?_) | refine cll (ToNum_g _ (oneS_good _)) (fun _ => ?_) | refine cll (num_Whole _) (fun _ => ?_) | refine cll (value_Bad _) (fun _ => ?_) | (refine sda ?_ ?_; (focus (first | rfl | (simp; done)))) | refine sda ?_ ?_ | refine conk rfl ?_ | refine ldk rfl ?_ | refine mapk (fun x hx => ?_) | intro hl))
      all_goals conv => whnf
      all_goals try simp only [decide_eq_true_eq, decide_eq_false_iff_not, Bool.not_eq_true', Bool.not_eq_false', List.length_map, Int.not_lt, Int.not_le, Decidable.not_not, gt_iff_lt, ge_iff_le] at *
      · omega
      · rename Ar => y
        rename l[_]? = some y => hy
        have hy' : l[n + 1]? = some y := hy
        obtain ⟨b, hb⟩ : ∃ b, ws[n + 1]? = some b := ⟨_, List.getElem?_eq_getElem (by omega)⟩
        have e : stN (((l.zip ws).take (n + 1)).foldl stN ([], 0)) (y, b) = ([], (tn (oneS y)).2) := by rw [stN, if_neg (by rw [hn2]; simp), if_pos h]
        have e2 := nmS_err hy' hb (by rw [e]; simp only; omega)
        rw [e2, e, if_neg (by simp only; omega), decide_eq_false (by simp only; omega)]
        rfl
      · omega
      · rename Ar => y
        rename l[_]? = some y => hy
        have hy' : l[n + 1]? = some y := hy
        rename Bool => b
        rename ws[_]? = some b => hb
        have hb' : ws[n + 1]? = some b := hb
        rename b = true => hbt
        have e : stN (((l.zip ws).take (n + 1)).foldl stN ([], 0)) (y, b) = ([], 5) := by rw [stN, if_neg (by rw [hn2]; simp), if_neg (by simp only; omega), if_pos hbt, if_neg (by simp [h])]
        have e2 := nmS_err hy' hb' (by rw [e]; simp)
        rw [e2, e]
        rfl
      · exact hn3.symm
      · rename Ar => y
        rename _ ∈ setAt _ _ _ => hm
        have hm : _ ∈ [cI (wholeS (tn (oneS y)).1).1] := hm
        rw [List.mem_singleton.1 hm]
        rfl
      · rename Ar => y
        rename _ ∈ setAt _ _ _ => hm
        have hm : _ ∈ [cI (wholeS (tn (oneS y)).1).1] := hm
        rename V => c
        rename c ∈ _ => hc
        rw [List.mem_singleton.1 hm] at hc
        rw [List.mem_singleton.1 hc]
        rfl
      · refine bytesb ?_ (by kernel_rfl)
        show (((l.zip ws).take (n + 1)).foldl stN ([], 0)).1.length + 1 ≤ 11
        omega
      · rename Ar => y
        rename l[_]? = some y => hy
        have hy' : l[n + 1]? = some y := hy
        rename Bool => b
        rename ws[_]? = some b => hb
        have hb' : ws[n + 1]? = some b := hb
        rename b = true => hbt
        have e : stN (((l.zip ws).take (n + 1)).foldl stN ([], 0)) (y, b) = ((((l.zip ws).take (n + 1)).foldl stN ([], 0)).1 ++ [(wholeS (tn (oneS y)).1).1], 0) := by rw [stN, if_neg (by rw [hn2]; simp), if_neg (by simp only; omega), if_pos hbt, if_pos (by assumption)]
        have e1 : ((l.zip ws).take (n + 1 + 1)).foldl stN ([], 0) = ((((l.zip ws).take (n + 1)).foldl stN ([], 0)).1 ++ [(wholeS (tn (oneS y)).1).1], 0) := by rw [foldT (zip_at hy' hb'), e]
        refine ⟨n + 2, ?_, ?_, ⟨by omega, by rw [e1], by rw [e1]; simp only [List.length_append, List.length_cons, List.length_nil]; omega⟩, by omega⟩
        · show [(1, V.row false (ws.map cT)), (5, V.ptr 0 0), (7, V.sl 1 0 ((((l.zip ws).take (n + 1)).foldl stN ([], 0)).1.length + 1)), (20, V.row false (l.map cA)), (21, V.int IntKind.i64 l.length), (22, V.int IntKind.i64 (IntKind.i64.wrap (((n + 1 : Nat) : Int) + 1)))] = [(1, V.row false (ws.map cT)), (5, V.ptr 0 0), (7, V.sl 1 0 (n + 1 + 1)), (20, V.row false (l.map cA)), (21, V.int IntKind.i64 l.length), (22, V.int IntKind.i64 ((n + 1 + 1 : Nat) : Int))]
          rw [hn3, w64 (by omega)]
          rfl
        · show [O.box true (cV ⟨0, 0, e0⟩), O.arr true 1 ((((l.zip ws).take (n + 1)).foldl stN ([], 0)).1.map cI ++ [cI (wholeS (tn (oneS y)).1).1])] = [O.box true (cV ⟨0, 0, e0⟩), O.arr true 1 ((((l.zip ws).take (n + 1 + 1)).foldl stN ([], 0)).1.map cI)]
          rw [e1, List.map_append]
          rfl
      · exact hn3.symm
      · rename Ar => y
        rename _ ∈ setAt _ _ _ => hm
        have hm : _ ∈ [cI (tn (oneS y)).1] := hm
        rw [List.mem_singleton.1 hm]
        rfl
      · rename Ar => y
        rename _ ∈ setAt _ _ _ => hm
        have hm : _ ∈ [cI (tn (oneS y)).1] := hm
        rename V => c
        rename c ∈ _ => hc
        rw [List.mem_singleton.1 hm] at hc
        rw [List.mem_singleton.1 hc]
        rfl
      · refine bytesb ?_ (by kernel_rfl)
        show (((l.zip ws).take (n + 1)).foldl stN ([], 0)).1.length + 1 ≤ 11
        omega
      · rename Ar => y
        rename l[_]? = some y => hy
        have hy' : l[n + 1]? = some y := hy
        rename Bool => b
        rename ws[_]? = some b => hb
        have hb' : ws[n + 1]? = some b := hb
        rename b = false => hbt
        have e : stN (((l.zip ws).take (n + 1)).foldl stN ([], 0)) (y, b) = ((((l.zip ws).take (n + 1)).foldl stN ([], 0)).1 ++ [(tn (oneS y)).1], 0) := by rw [stN, if_neg (by rw [hn2]; simp), if_neg (by simp only; omega), if_neg (by rw [hbt]; simp)]
        have e1 : ((l.zip ws).take (n + 1 + 1)).foldl stN ([], 0) = ((((l.zip ws).take (n + 1)).foldl stN ([], 0)).1 ++ [(tn (oneS y)).1], 0) := by rw [foldT (zip_at hy' hb'), e]
        refine ⟨n + 2, ?_, ?_, ⟨by omega, by rw [e1], by rw [e1]; simp only [List.length_append, List.length_cons, List.length_nil]; omega⟩, by omega⟩
        · show [(1, V.row false (ws.map cT)), (5, V.ptr 0 0), (7, V.sl 1 0 ((((l.zip ws).take (n + 1)).foldl stN ([], 0)).1.length + 1)), (20, V.row false (l.map cA)), (21, V.int IntKind.i64 l.length), (22, V.int IntKind.i64 (IntKind.i64.wrap (((n + 1 : Nat) : Int) + 1)))] = [(1, V.row false (ws.map cT)), (5, V.ptr 0 0), (7, V.sl 1 0 (n + 1 + 1)), (20, V.row false (l.map cA)), (21, V.int IntKind.i64 l.length), (22, V.int IntKind.i64 ((n + 1 + 1 : Nat) : Int))]
          rw [hn3, w64 (by omega)]
          rfl
        · show [O.box true (cV ⟨0, 0, e0⟩), O.arr true 1 ((((l.zip ws).take (n + 1)).foldl stN ([], 0)).1.map cI ++ [cI (tn (oneS y)).1])] = [O.box true (cV ⟨0, 0, e0⟩), O.arr true 1 ((((l.zip ws).take (n + 1 + 1)).foldl stN ([], 0)).1.map cI)]
          rw [e1, List.map_append]
          rfl
      · have h1 : (l.zip ws).take (n + 1) = l.zip ws := List.take_of_length_le (by rw [List.length_zip]; omega)
        rw [h1] at hn2 hn3 ⊢
        have e : (nmS l ws).2 = 0 := hn2
        rw [List.drop_zero, List.take_of_length_le (by rw [List.length_map]; omega), e, if_pos rfl]
        rfl
end Go.Proofs.YtnpcmgajplikbaaGreatDoor

/- Layer 17: functions of numbers. -/
set_option maxRecDepth 100000
set_option linter.all false
namespace Go.Proofs.YtnpcmgajplikbaaGreatDoor
open Ab R
/-- What a function of numbers answers of arguments. -/
def ofN (ws : List Bool) (q : List Int → GV) (l : List Ar) : GV := if l.length = ws.length then (if (nmS l ws).2 = 0 then q (nmS l ws).1 else badS (nmS l ws).2) else badS 2
theorem stN_ok : ∀ (l : List (Ar × Bool)) (st : List Int × Int), (∀ x ∈ st.1, goodN x = true) → (∀ x ∈ (l.foldl stN st).1, goodN x = true)
  | [], _, h => h
  | p :: l, st, h => by
    rw [List.foldl_cons]
    refine stN_ok l _ ?_
    have hg := tn_good (oneS_good p.1)
    unfold stN
    split
    · exact h
    · split
      · simp
      · split
        · split
          · intro x hx
            rcases List.mem_append.1 hx with hx | hx
            · exact h x hx
            · rw [List.mem_singleton.1 hx]
              have := tdivb hg.1
              unfold wholeS
              split
              · simp only [goodN, decide_eq_true_eq]; omega
              · decide
          · simp
        · intro x hx
          rcases List.mem_append.1 hx with hx | hx
          · exact h x hx
          · rw [List.mem_singleton.1 hx]
            exact hg.1
theorem nmS_ok (l : List Ar) (ws : List Bool) : ∀ x ∈ (nmS l ws).1, goodN x = true := stN_ok _ _ (by simp)
theorem stN_len : ∀ (l : List (Ar × Bool)) (acc : List Int), (l.foldl stN (acc, 0)).2 = 0 → (l.foldl stN (acc, 0)).1.length = acc.length + l.length
  | [], acc, _ => rfl
  | p :: l, acc, h => by
    have hg := tn_good (oneS_good p.1)
    rw [List.foldl_cons, stN, if_neg (by simp)] at h ⊢
    split at h
    · rw [stN_err _ _ (by simp only; omega)] at h
      simp only at h
      omega
    · rename_i h1
      rw [if_neg h1]
      split at h
      · rename_i h2
        rw [if_pos h2]
        split at h
        · rename_i h3
          rw [if_pos h3, stN_len l _ h, List.length_append, List.length_cons, List.length_cons, List.length_nil]
          simp only
          omega
        · rw [stN_err _ _ (by simp)] at h
          simp at h
      · rename_i h2
        rw [if_neg h2, stN_len l _ h, List.length_append, List.length_cons, List.length_cons, List.length_nil]
        simp only
        omega
theorem nmS_len {l : List Ar} {ws : List Bool} (hl : l.length = ws.length) (h : (nmS l ws).2 = 0) : (nmS l ws).1.length = ws.length := by
  have := stN_len (l.zip ws) [] h
  rw [nmS, this, List.length_zip]
  simp only [List.length_nil]
  omega
theorem of_0 (g : FuncId) (ws : List Bool) : Ret Tryz.prog F_maths_of [.fn g [] [], .row false (ws.map cT)] (.fn F_maths_of_1 [] [.elem [.row false (ws.map cT)], .elem [.fn g [] []]]) := by
  refine r_maths_of rfl fun hw => ?_
  clear hw
  repeat' ((conv => whnf); (first | refine csp (fun h => ?_) (fun h => ?_) | (refine sda ?_ ?_; (focus (first | rfl | (simp; done)))) | refine sda ?_ ?_ | refine conk rfl ?_ | refine ldk rfl ?_ | refine mapk (fun x hx => ?_) | intro hl))
  all_goals conv => whnf
theorem of1_0 (g : FuncId) (ws : List Bool) (q : List Int → GV) (hws : ws.length ≤ 10) (hq : ∀ ns : List Int, ns.length = ws.length → (∀ x ∈ ns, goodN x = true) → Ret Tryz.prog g [.row false (ns.map cI)] (eV (q ns))) (l : List Ar) :
    Ret Tryz.prog F_maths_of_1 [.row false (l.map cA), .elem [.row false (ws.map cT)], .elem [.fn g [] []]] (eV (ofN ws q l)) := by
  refine r_maths_of_1 rfl fun hw => ?_
  clear hw
  by_cases hl : l.length = ws.length
  · have hn := numbers_r l ws hl (by omega)
    by_cases h0 : (nmS l ws).2 = 0
    · have hq1 := hq (nmS l ws).1 (nmS_len hl h0) (nmS_ok l ws)
      rw [if_pos h0, decide_eq_true h0] at hn
      repeat' ((conv => whnf); (first | refine csp (fun h => ?_) (fun h => ?_) | refine cll (hn) (fun _ => ?_) | refine cll (hq1) (fun _ => ?_) | (refine sda ?_ ?_; (focus (first | rfl | (simp; done)))) | refine sda ?_ ?_ | refine conk rfl ?_ | refine ldk rfl ?_ | refine mapk (fun x hx => ?_) | intro hl))
      all_goals conv => whnf
      rw [ofN, if_pos hl, if_pos h0]
    · rw [if_neg h0, decide_eq_false h0] at hn
      repeat' ((conv => whnf); (first | refine csp (fun h => ?_) (fun h => ?_) | refine cll (hn) (fun _ => ?_) | (refine sda ?_ ?_; (focus (first | rfl | (simp; done)))) | refine sda ?_ ?_ | refine conk rfl ?_ | refine ldk rfl ?_ | refine mapk (fun x hx => ?_) | intro hl))
      all_goals conv => whnf
      rw [ofN, if_pos hl, if_neg h0]
  · have hn := numbers_far l ws hl
    repeat' ((conv => whnf); (first | refine csp (fun h => ?_) (fun h => ?_) | refine cll (hn) (fun _ => ?_) | (refine sda ?_ ?_; (focus (first | rfl | (simp; done)))) | refine sda ?_ ?_ | refine conk rfl ?_ | refine ldk rfl ?_ | refine mapk (fun x hx => ?_) | intro hl))
    all_goals conv => whnf
    rw [ofN, if_neg hl]
theorem of_P (g : FuncId) (ws : List Bool) : Ret Tryz.prog F_maths_of [.fn F_maths_plain_1 [] [.elem [.fn g [] []]], .row false (ws.map cT)] (.fn F_maths_of_1 [] [.elem [.row false (ws.map cT)], .elem [.fn F_maths_plain_1 [] [.elem [.fn g [] []]]]]) := by
  refine r_maths_of rfl fun hw => ?_
  clear hw
  repeat' ((conv => whnf); (first | refine csp (fun h => ?_) (fun h => ?_) | (refine sda ?_ ?_; (focus (first | rfl | (simp; done)))) | refine sda ?_ ?_ | refine conk rfl ?_ | refine ldk rfl ?_ | refine mapk (fun x hx => ?_) | intro hl))
  all_goals conv => whnf
theorem of_I (g : FuncId) (ws : List Bool) : Ret Tryz.prog F_maths_of [.fn F_maths_ints_1 [] [.elem [.fn g [] []]], .row false (ws.map cT)] (.fn F_maths_of_1 [] [.elem [.row false (ws.map cT)], .elem [.fn F_maths_ints_1 [] [.elem [.fn g [] []]]]]) := by
  refine r_maths_of rfl fun hw => ?_
  clear hw
  repeat' ((conv => whnf); (first | refine csp (fun h => ?_) (fun h => ?_) | (refine sda ?_ ?_; (focus (first | rfl | (simp; done)))) | refine sda ?_ ?_ | refine conk rfl ?_ | refine ldk rfl ?_ | refine mapk (fun x hx => ?_) | intro hl))
  all_goals conv => whnf
theorem of_R (k : Int) (ws : List Bool) : Ret Tryz.prog F_maths_of [.fn F_maths_rounds_1 [] [.elem [.int .i64 k]], .row false (ws.map cT)] (.fn F_maths_of_1 [] [.elem [.row false (ws.map cT)], .elem [.fn F_maths_rounds_1 [] [.elem [.int .i64 k]]]]) := by
  refine r_maths_of rfl fun hw => ?_
  clear hw
  repeat' ((conv => whnf); (first | refine csp (fun h => ?_) (fun h => ?_) | (refine sda ?_ ?_; (focus (first | rfl | (simp; done)))) | refine sda ?_ ?_ | refine conk rfl ?_ | refine ldk rfl ?_ | refine mapk (fun x hx => ?_) | intro hl))
  all_goals conv => whnf
theorem of1_R (k : Int) (ws : List Bool) (q : List Int → GV) (hws : ws.length ≤ 10) (hq : ∀ ns : List Int, ns.length = ws.length → (∀ x ∈ ns, goodN x = true) → Ret Tryz.prog F_maths_rounds_1 [.row false (ns.map cI), .elem [.int .i64 k]] (eV (q ns))) (l : List Ar) :
    Ret Tryz.prog F_maths_of_1 [.row false (l.map cA), .elem [.row false (ws.map cT)], .elem [.fn F_maths_rounds_1 [] [.elem [.int .i64 k]]]] (eV (ofN ws q l)) := by
  refine r_maths_of_1 rfl fun hw => ?_
  clear hw
  by_cases hl : l.length = ws.length
  · have hn := numbers_r l ws hl (by omega)
    by_cases h0 : (nmS l ws).2 = 0
    · have hq1 := hq (nmS l ws).1 (nmS_len hl h0) (nmS_ok l ws)
      rw [if_pos h0, decide_eq_true h0] at hn
      repeat' ((conv => whnf); (first | refine csp (fun h => ?_) (fun h => ?_) | refine cll (hn) (fun _ => ?_) | refine cll (hq1) (fun _ => ?_) | (refine sda ?_ ?_; (focus (first | rfl | (simp; done)))) | refine sda ?_ ?_ | refine conk rfl ?_ | refine ldk rfl ?_ | refine mapk (fun x hx => ?_) | intro hl))
      all_goals conv => whnf
      rw [ofN, if_pos hl, if_pos h0]
    · rw [if_neg h0, decide_eq_false h0] at hn
      repeat' ((conv => whnf); (first | refine csp (fun h => ?_) (fun h => ?_) | refine cll (hn) (fun _ => ?_) | (refine sda ?_ ?_; (focus (first | rfl | (simp; done)))) | refine sda ?_ ?_ | refine conk rfl ?_ | refine ldk rfl ?_ | refine mapk (fun x hx => ?_) | intro hl))
      all_goals conv => whnf
      rw [ofN, if_pos hl, if_neg h0]
  · have hn := numbers_far l ws hl
    repeat' ((conv => whnf); (first | refine csp (fun h => ?_) (fun h => ?_) | refine cll (hn) (fun _ => ?_) | (refine sda ?_ ?_; (focus (first | rfl | (simp; done)))) | refine sda ?_ ?_ | refine conk rfl ?_ | refine ldk rfl ?_ | refine mapk (fun x hx => ?_) | intro hl))
    all_goals conv => whnf
    rw [ofN, if_neg hl]
end Go.Proofs.YtnpcmgajplikbaaGreatDoor

/- Layer 17: what is found by name. -/
set_option maxRecDepth 100000
set_option linter.all false
namespace Go.Proofs.YtnpcmgajplikbaaGreatDoor
open Ab R
theorem plain_P (g : FuncId) : Ret Tryz.prog F_maths_plain [.fn g [] []] (.fn F_maths_of_1 [] [.elem [.row false [[.bool false]]], .elem [.fn F_maths_plain_1 [] [.elem [.fn g [] []]]]]) := by
  refine r_maths_plain rfl fun hw => ?_
  clear hw
  repeat' ((conv => whnf); (first | refine csp (fun h => ?_) (fun h => ?_) | refine cll (of_P _ [false]) (fun _ => ?_) | (refine sda ?_ ?_; (focus (first | rfl | (simp; done)))) | refine sda ?_ ?_ | refine conk rfl ?_ | refine ldk rfl ?_ | refine mapk (fun x hx => ?_) | intro hl))
  all_goals conv => whnf
  all_goals rfl
theorem mints_r (g : FuncId) : Ret Tryz.prog F_maths_ints [.fn g [] []] (.fn F_maths_of_1 [] [.elem [.row false [[.bool true], [.bool true]]], .elem [.fn F_maths_ints_1 [] [.elem [.fn g [] []]]]]) := by
  refine r_maths_ints rfl fun hw => ?_
  clear hw
  repeat' ((conv => whnf); (first | refine csp (fun h => ?_) (fun h => ?_) | refine cll (of_I _ [true, true]) (fun _ => ?_) | (refine sda ?_ ?_; (focus (first | rfl | (simp; done)))) | refine sda ?_ ?_ | refine conk rfl ?_ | refine ldk rfl ?_ | refine mapk (fun x hx => ?_) | intro hl))
  all_goals conv => whnf
  all_goals rfl
theorem rounds_r (k : Int) : Ret Tryz.prog F_maths_rounds [.int .i64 k] (.fn F_maths_of_1 [] [.elem [.row false [[.bool false], [.bool true]]], .elem [.fn F_maths_rounds_1 [] [.elem [.int .i64 k]]]]) := by
  refine r_maths_rounds rfl fun hw => ?_
  clear hw
  repeat' ((conv => whnf); (first | refine csp (fun h => ?_) (fun h => ?_) | refine cll (of_R _ [false, true]) (fun _ => ?_) | (refine sda ?_ ?_; (focus (first | rfl | (simp; done)))) | refine sda ?_ ?_ | refine conk rfl ?_ | refine ldk rfl ?_ | refine mapk (fun x hx => ?_) | intro hl))
  all_goals conv => whnf
  all_goals rfl
theorem unary_ABS : Ret Tryz.prog F_maths_unary [.str ⟨#[65, 66, 83]⟩] (.fn F_maths_of_1 [] [.elem [.row false [[.bool false]]], .elem [.fn F_maths_plain_1 [] [.elem [.fn F_maths_unary_1 [] []]]]]) := by
  refine r_maths_unary rfl fun hw => ?_
  clear hw
  repeat' ((conv => whnf); (first | refine csp (fun h => ?_) (fun h => ?_) | refine cll (plain_P _) (fun _ => ?_) | (refine sda ?_ ?_; (focus (first | rfl | (simp; done)))) | refine sda ?_ ?_ | refine conk rfl ?_ | refine ldk rfl ?_ | refine mapk (fun x hx => ?_) | intro hl))
  all_goals conv => whnf
  all_goals rfl
theorem mfnd_ROUND : Ret Tryz.prog F_maths_find [.str ⟨#[82, 79, 85, 78, 68]⟩] (.fn F_maths_of_1 [] [.elem [.row false [[.bool false], [.bool true]]], .elem [.fn F_maths_rounds_1 [] [.elem [.int .i64 0]]]]) := by
  refine r_maths_find rfl fun hw => ?_
  clear hw
  repeat' ((conv => whnf); (first | refine csp (fun h => ?_) (fun h => ?_) | refine cll (rounds_r _) (fun _ => ?_) | (refine sda ?_ ?_; (focus (first | rfl | (simp; done)))) | refine sda ?_ ?_ | refine conk rfl ?_ | refine ldk rfl ?_ | refine mapk (fun x hx => ?_) | intro hl))
  all_goals conv => whnf
  all_goals rfl
theorem mfnd_GCD : Ret Tryz.prog F_maths_find [.str ⟨#[71, 67, 68]⟩] (.fn F_maths_of_1 [] [.elem [.row false [[.bool true], [.bool true]]], .elem [.fn F_maths_ints_1 [] [.elem [.fn F_num_Gcd [] []]]]]) := by
  refine r_maths_find rfl fun hw => ?_
  clear hw
  repeat' ((conv => whnf); (first | refine csp (fun h => ?_) (fun h => ?_) | refine cll (mints_r _) (fun _ => ?_) | (refine sda ?_ ?_; (focus (first | rfl | (simp; done)))) | refine sda ?_ ?_ | refine conk rfl ?_ | refine ldk rfl ?_ | refine mapk (fun x hx => ?_) | intro hl))
  all_goals conv => whnf
  all_goals rfl
theorem mfnd_LCM : Ret Tryz.prog F_maths_find [.str ⟨#[76, 67, 77]⟩] (.fn F_maths_of_1 [] [.elem [.row false [[.bool true], [.bool true]]], .elem [.fn F_maths_ints_1 [] [.elem [.fn F_maths_find_3 [] []]]]]) := by
  refine r_maths_find rfl fun hw => ?_
  clear hw
  repeat' ((conv => whnf); (first | refine csp (fun h => ?_) (fun h => ?_) | refine cll (mints_r _) (fun _ => ?_) | (refine sda ?_ ?_; (focus (first | rfl | (simp; done)))) | refine sda ?_ ?_ | refine conk rfl ?_ | refine ldk rfl ?_ | refine mapk (fun x hx => ?_) | intro hl))
  all_goals conv => whnf
  all_goals rfl
theorem mfnd_BITAND : Ret Tryz.prog F_maths_find [.str ⟨#[66, 73, 84, 65, 78, 68]⟩] (.fn F_maths_of_1 [] [.elem [.row false [[.bool true], [.bool true]]], .elem [.fn F_maths_ints_1 [] [.elem [.fn F_maths_find_4 [] []]]]]) := by
  refine r_maths_find rfl fun hw => ?_
  clear hw
  repeat' ((conv => whnf); (first | refine csp (fun h => ?_) (fun h => ?_) | refine cll (mints_r _) (fun _ => ?_) | (refine sda ?_ ?_; (focus (first | rfl | (simp; done)))) | refine sda ?_ ?_ | refine conk rfl ?_ | refine ldk rfl ?_ | refine mapk (fun x hx => ?_) | intro hl))
  all_goals conv => whnf
  all_goals rfl
theorem mfnd_BITOR : Ret Tryz.prog F_maths_find [.str ⟨#[66, 73, 84, 79, 82]⟩] (.fn F_maths_of_1 [] [.elem [.row false [[.bool true], [.bool true]]], .elem [.fn F_maths_ints_1 [] [.elem [.fn F_maths_find_5 [] []]]]]) := by
  refine r_maths_find rfl fun hw => ?_
  clear hw
  repeat' ((conv => whnf); (first | refine csp (fun h => ?_) (fun h => ?_) | refine cll (mints_r _) (fun _ => ?_) | (refine sda ?_ ?_; (focus (first | rfl | (simp; done)))) | refine sda ?_ ?_ | refine conk rfl ?_ | refine ldk rfl ?_ | refine mapk (fun x hx => ?_) | intro hl))
  all_goals conv => whnf
  all_goals rfl
theorem mfnd_BITXOR : Ret Tryz.prog F_maths_find [.str ⟨#[66, 73, 84, 88, 79, 82]⟩] (.fn F_maths_of_1 [] [.elem [.row false [[.bool true], [.bool true]]], .elem [.fn F_maths_ints_1 [] [.elem [.fn F_maths_find_6 [] []]]]]) := by
  refine r_maths_find rfl fun hw => ?_
  clear hw
  repeat' ((conv => whnf); (first | refine csp (fun h => ?_) (fun h => ?_) | refine cll (mints_r _) (fun _ => ?_) | (refine sda ?_ ?_; (focus (first | rfl | (simp; done)))) | refine sda ?_ ?_ | refine conk rfl ?_ | refine ldk rfl ?_ | refine mapk (fun x hx => ?_) | intro hl))
  all_goals conv => whnf
  all_goals rfl
theorem mfnd_BASE : Ret Tryz.prog F_maths_find [.str ⟨#[66, 65, 83, 69]⟩] (.fn F_maths_of_1 [] [.elem [.row false [[.bool true], [.bool true]]], .elem [.fn F_maths_based [] []]]) := by
  refine r_maths_find rfl fun hw => ?_
  clear hw
  repeat' ((conv => whnf); (first | refine csp (fun h => ?_) (fun h => ?_) | refine cll (of_0 _ [true, true]) (fun _ => ?_) | (refine sda ?_ ?_; (focus (first | rfl | (simp; done)))) | refine sda ?_ ?_ | refine conk rfl ?_ | refine ldk rfl ?_ | refine mapk (fun x hx => ?_) | intro hl))
  all_goals conv => whnf
  all_goals rfl
theorem mfnd_ABS : Ret Tryz.prog F_maths_find [.str ⟨#[65, 66, 83]⟩] (.fn F_maths_of_1 [] [.elem [.row false [[.bool false]]], .elem [.fn F_maths_plain_1 [] [.elem [.fn F_maths_unary_1 [] []]]]]) := by
  refine r_maths_find rfl fun hw => ?_
  clear hw
  repeat' ((conv => whnf); (first | refine csp (fun h => ?_) (fun h => ?_) | refine cll (unary_ABS) (fun _ => ?_) | (refine sda ?_ ?_; (focus (first | rfl | (simp; done)))) | refine sda ?_ ?_ | refine conk rfl ?_ | refine ldk rfl ?_ | refine mapk (fun x hx => ?_) | intro hl))
  all_goals conv => whnf
  all_goals rfl
theorem mcall_0 (nm : ByteArray) (g : FuncId) (ws : List Bool) (args : List (List V)) (r : GV) (hf : Ret Tryz.prog F_maths_find [.str nm] (.fn F_maths_of_1 [] [.elem [.row false (ws.map cT)], .elem [.fn g [] []]])) (hr : Ret Tryz.prog F_maths_of_1 [.row false args, .elem [.row false (ws.map cT)], .elem [.fn g [] []]] (eV r)) :
    Ret Tryz.prog F_maths_Call [.str nm, .row false args] (.tup [eV r, .bool true]) := by
  refine r_maths_Call rfl fun hw => ?_
  clear hw
  repeat' ((conv => whnf); (first | refine csp (fun h => ?_) (fun h => ?_) | refine cll (hf) (fun _ => ?_) | refine cll (hr) (fun _ => ?_) | (refine sda ?_ ?_; (focus (first | rfl | (simp; done)))) | refine sda ?_ ?_ | refine conk rfl ?_ | refine ldk rfl ?_ | refine mapk (fun x hx => ?_) | intro hl))
  all_goals conv => whnf
theorem mcall_P (nm : ByteArray) (g : FuncId) (ws : List Bool) (args : List (List V)) (r : GV) (hf : Ret Tryz.prog F_maths_find [.str nm] (.fn F_maths_of_1 [] [.elem [.row false (ws.map cT)], .elem [.fn F_maths_plain_1 [] [.elem [.fn g [] []]]]])) (hr : Ret Tryz.prog F_maths_of_1 [.row false args, .elem [.row false (ws.map cT)], .elem [.fn F_maths_plain_1 [] [.elem [.fn g [] []]]]] (eV r)) :
    Ret Tryz.prog F_maths_Call [.str nm, .row false args] (.tup [eV r, .bool true]) := by
  refine r_maths_Call rfl fun hw => ?_
  clear hw
  repeat' ((conv => whnf); (first | refine csp (fun h => ?_) (fun h => ?_) | refine cll (hf) (fun _ => ?_) | refine cll (hr) (fun _ => ?_) | (refine sda ?_ ?_; (focus (first | rfl | (simp; done)))) | refine sda ?_ ?_ | refine conk rfl ?_ | refine ldk rfl ?_ | refine mapk (fun x hx => ?_) | intro hl))
  all_goals conv => whnf
theorem mcall_I (nm : ByteArray) (g : FuncId) (ws : List Bool) (args : List (List V)) (r : GV) (hf : Ret Tryz.prog F_maths_find [.str nm] (.fn F_maths_of_1 [] [.elem [.row false (ws.map cT)], .elem [.fn F_maths_ints_1 [] [.elem [.fn g [] []]]]])) (hr : Ret Tryz.prog F_maths_of_1 [.row false args, .elem [.row false (ws.map cT)], .elem [.fn F_maths_ints_1 [] [.elem [.fn g [] []]]]] (eV r)) :
    Ret Tryz.prog F_maths_Call [.str nm, .row false args] (.tup [eV r, .bool true]) := by
  refine r_maths_Call rfl fun hw => ?_
  clear hw
  repeat' ((conv => whnf); (first | refine csp (fun h => ?_) (fun h => ?_) | refine cll (hf) (fun _ => ?_) | refine cll (hr) (fun _ => ?_) | (refine sda ?_ ?_; (focus (first | rfl | (simp; done)))) | refine sda ?_ ?_ | refine conk rfl ?_ | refine ldk rfl ?_ | refine mapk (fun x hx => ?_) | intro hl))
  all_goals conv => whnf
theorem mcall_R (nm : ByteArray) (k : Int) (ws : List Bool) (args : List (List V)) (r : GV) (hf : Ret Tryz.prog F_maths_find [.str nm] (.fn F_maths_of_1 [] [.elem [.row false (ws.map cT)], .elem [.fn F_maths_rounds_1 [] [.elem [.int .i64 k]]]])) (hr : Ret Tryz.prog F_maths_of_1 [.row false args, .elem [.row false (ws.map cT)], .elem [.fn F_maths_rounds_1 [] [.elem [.int .i64 k]]]] (eV r)) :
    Ret Tryz.prog F_maths_Call [.str nm, .row false args] (.tup [eV r, .bool true]) := by
  refine r_maths_Call rfl fun hw => ?_
  clear hw
  repeat' ((conv => whnf); (first | refine csp (fun h => ?_) (fun h => ?_) | refine cll (hf) (fun _ => ?_) | refine cll (hr) (fun _ => ?_) | (refine sda ?_ ?_; (focus (first | rfl | (simp; done)))) | refine sda ?_ ?_ | refine conk rfl ?_ | refine ldk rfl ?_ | refine mapk (fun x hx => ?_) | intro hl))
  all_goals conv => whnf
theorem mask_r (nm : ByteArray) (args : List (List V)) (r : GV) (hc : Ret Tryz.prog F_maths_Call [.str nm, .row false args] (.tup [eV r, .bool true])) : Ret Tryz.prog F_octavolaw17_ask [.str nm, .row false args] (eV r) := by
  refine r_octavolaw17_ask rfl fun hw => ?_
  clear hw
  repeat' ((conv => whnf); (first | refine csp (fun h => ?_) (fun h => ?_) | refine cll (hc) (fun _ => ?_) | (refine sda ?_ ?_; (focus (first | rfl | (simp; done)))) | refine sda ?_ ?_ | refine conk rfl ?_ | refine ldk rfl ?_ | refine mapk (fun x hx => ?_) | intro hl))
  all_goals conv => whnf
theorem l17_one (v : GV) : Ret Tryz.prog F_octavolaw17_one [eV v] (eA ⟨1, 1, [v], false⟩) := by
  refine r_octavolaw17_one rfl fun hw => ?_
  clear hw
  repeat' ((conv => whnf); (first | refine csp (fun h => ?_) (fun h => ?_) | (refine sda ?_ ?_; (focus (first | rfl | (simp; done)))) | refine sda ?_ ?_ | refine conk rfl ?_ | refine ldk rfl ?_ | refine mapk (fun x hx => ?_) | intro hl))
  all_goals conv => whnf
  all_goals rfl
theorem l17_number (n : Int) : Ret Tryz.prog F_octavolaw17_number [.int .i64 n] (eA ⟨1, 1, [⟨1, n, e0⟩], false⟩) := by
  refine r_octavolaw17_number rfl fun hw => ?_
  clear hw
  repeat' ((conv => whnf); (first | refine csp (fun h => ?_) (fun h => ?_) | refine cll (l17_one ⟨1, n, e0⟩) (fun _ => ?_) | (refine sda ?_ ?_; (focus (first | rfl | (simp; done)))) | refine sda ?_ ?_ | refine conk rfl ?_ | refine ldk rfl ?_ | refine mapk (fun x hx => ?_) | intro hl))
  all_goals conv => whnf
end Go.Proofs.YtnpcmgajplikbaaGreatDoor

/- Walks over rows, as the small reckoner's contracts. -/
set_option maxRecDepth 100000
set_option linter.all false
namespace Go.Proofs.YtnpcmgajplikbaaGreatDoor
open Ab R P Go.RowKit Go.Proofs.YtnpcmgajplikbaaGreatDoorW.PrintWords Go.Proofs.YtnpcmgajplikbaaGreatDoorW.PrintLast
theorem Ab.Ret.callsW {P : Program} {f : FuncId} {args : List V} {r : V} {x : Value} (hcall : ∀ ar w, (callFunc f ar).run P w = .ok (.enter f ar) w) (hr : Fits r x)
    (h : ∀ (m : Mem) (w : World) (vs : List Value), m.ok w → RepL m [] args vs → Calls P f vs.toArray w fun e w' => e = .returned x ∧ Below w.heap.size w w') : Ret P f args r := by
  intro m w ys hm rv
  unfold CallsX
  rw [hcall]
  refine (h m w ys hm rv).mono fun e w' ⟨he, hb⟩ => ⟨x, he, m, fun _ _ _ q => q, fun b o v hv => ?_, hr m, hb, fun b o y hy hn => by rw [hy] at hn; cases hn⟩
  rw [World.cell?_of_block (w := w) (a := ⟨b, o, none⟩) (hb.block b (hm.lt hv))]
  exact hm b o v hv
theorem kdc_of {α : Type} (d : Kd α) {m : Mem} {w : World} (hm : m.ok w) {x : Bool} {els : List (List V)} {xs : List α} {v : Value} (h : Rep m [] (.row x els) v) (hl : xs.length = els.length) (hz : ∀ e ∈ els, e.length = d.sz)
    (hK : ∀ (i : Nat) (e : List V) (p : α) (cs : List Value), els[i]? = some e → xs[i]? = some p → RepL m [] e cs → d.K w p cs) : ∃ A cap, v = .slice A xs.length cap ∧ xs.length ≤ cap ∧ d.C w A xs.length xs := by
  cases h with
  | row ι x els a cap sz b o g hx hc hlen hs ha hcell hr =>
    refine ⟨a, cap, by rw [hl], by omega, rfl, by omega, fun hpos => ?_⟩
    have hne : els ≠ [] := fun q => by subst q; have h0 : xs.length = 0 := hl; omega
    have hsz : sz = d.sz := by
      cases els with
      | nil => exact absurd rfl hne
      | cons e l => rw [← hs e List.mem_cons_self, hz e List.mem_cons_self]
    refine ⟨⟨b, o, none⟩, ha hne, fun j p hj => ?_⟩
    have hjl : j < els.length := by rw [← hl]; exact (List.getElem?_eq_some_iff.1 hj).1
    have he := List.getElem?_eq_getElem hjl
    have hel : (els[j]).length = d.sz := hz _ (List.getElem_mem hjl)
    refine ⟨(List.range d.sz).map (g j), by simp, hK j _ p _ he hj ⟨by simp [hel], fun i c y hc hy => ?_⟩, fun i u hu => ?_⟩
    · have hi : i < d.sz := by rw [← hel]; exact (List.getElem?_eq_some_iff.1 hc).1
      rw [List.getElem?_map, List.getElem?_range hi] at hy
      obtain rfl := Option.some.inj hy
      exact hr j i _ c he hc
    · have hi : i < d.sz := by
        have := (List.getElem?_eq_some_iff.1 hu).1
        simpa using this
      rw [List.getElem?_map, List.getElem?_range hi] at hu
      obtain rfl := Option.some.inj hu
      have := hcell j i _ _ he (List.getElem?_eq_getElem (by rw [hel]; exact hi))
      have hcl := hm _ _ _ this
      rw [hsz] at hcl
      have e1 : (Addr.add ⟨b, o, none⟩ (j * d.sz + i)) = ⟨b, o + (j * d.sz + i), none⟩ := by
        unfold Addr.add
        split
        · rename_i h0
          rw [h0]
          rfl
        · rfl
      rw [e1, ← Nat.add_assoc]
      exact hcl
theorem kdc_ints {m : Mem} {w : World} (hm : m.ok w) {x : Bool} {l : List Int} {v : Value} (h : Rep m [] (.row x (l.map fun n => [.int .i64 n])) v) : ∃ A cap, v = .slice A l.length cap ∧ l.length ≤ cap ∧ Kd.C (Kd.int .i64) w A l.length l := by
  refine kdc_of (Kd.int .i64) hm h (by simp) (fun e he => ?_) (fun i e p cs he hp hr => ?_)
  · obtain ⟨n, _, rfl⟩ := List.mem_map.1 he
    rfl
  · rw [List.getElem?_map, hp] at he
    obtain rfl := Option.some.inj he
    exact sames_repL (vs := [.int .i64 p]) (xs := [.int .i64 p]) ⟨same_int _ _, True.intro⟩ hr
theorem based_c (l : List Int) (r1 r2 : Int) (r3 : ByteArray) (h : Ev (fun k => maths_based.f k l) (r1, r2, r3)) (o1 : IntKind.i64.wrap r1 = r1) (o2 : IntKind.i64.wrap r2 = r2) (o3 : r3.size ≤ 9223372036854775807) : Ret Tryz.prog F_maths_based [.row false (l.map fun n => [.int .i64 n])] (.agg [.int .i64 r1, .int .i64 r2, .str r3]) := by
  obtain ⟨k, hk⟩ := h.rounds
  refine Ab.Ret.callsW Tryz.call55 (fits_agg (xs := [.int .i64 r1, .int .i64 r2, .string r3]) ⟨fits_int o1, ⟨fits_int o2, ⟨fits_str o3, True.intro⟩⟩⟩) (fun m w vs hm hv => ?_)
  obtain ⟨v, rfl⟩ : ∃ v, vs = [v] := by
    have := hv.1
    match vs, this with
    | [v], _ => exact ⟨v, rfl⟩
  obtain ⟨A, cap, rfl, hc, hC⟩ := kdc_ints hm (hv.2 0 _ _ rfl rfl)
  exact maths_based.calls k A cap l r1 r2 r3 w hC hc hk
end Go.Proofs.YtnpcmgajplikbaaGreatDoor

/- Layer 17: rounding, bases; the examples live. -/
set_option maxRecDepth 100000
set_option linter.all false
namespace Go.Proofs.YtnpcmgajplikbaaGreatDoor
open Ab R
abbrev oA (v : GV) : Ar := ⟨1, 1, [v], false⟩
theorem one_oA {v : GV} (h : goodV v = true) : oneS (oA v) = v := by
  have : goodA (oA v) = true := goodA_yes ⟨by simp [oA], by simp [oA], by simp [oA], by simp [oA], rfl⟩ (by simp [oA, h])
  rw [oneS, if_pos ⟨rfl, this⟩]
  rfl
theorem goodV_num {n : Int} (h : goodN n = true) : goodV ⟨1, n, e0⟩ = true := by
  simp [goodV, h]
theorem num_Round (n d how : Int) (h1 : -9223372036854775808 ≤ d) (h2 : d ≤ 9223372036854775807) : Ret Tryz.prog F_num_Round [.int .i64 n, .int .i64 d, .int .i64 how] (.tup [.int .i64 (Nm.rnd n d how).1, .bool (Nm.rnd n d how).2]) := by
  have := Mt.rnd_bd n d how
  exact c_num_Round n d how (Nm.rnd n d how).1 (Nm.rnd n d how).2 (Nm.Round_is n d how ⟨h1, h2⟩) (w64 (by omega))
theorem rounds_1 (x d k : Int) (h1 : -9223372036854775808 ≤ d) (h2 : d ≤ 9223372036854775807) : Ret Tryz.prog F_maths_rounds_1 [.row false [[.int .i64 x], [.int .i64 d]], .elem [.int .i64 k]] (eV (ofS (Nm.rnd x d k).1 (Nm.rnd x d k).2)) := by
  refine r_maths_rounds_1 rfl fun hw => ?_
  clear hw
  repeat' ((conv => whnf); (first | refine csp (fun h => ?_) (fun h => ?_) | refine cll (num_Round _ _ _ h1 h2) (fun _ => ?_) | refine cll (value_Of _ _) (fun _ => ?_) | (refine sda ?_ ?_; (focus (first | rfl | (simp; done)))) | refine sda ?_ ?_ | refine conk rfl ?_ | refine ldk rfl ?_ | refine mapk (fun x hx => ?_) | intro hl))
  all_goals conv => whnf
def two (f : Int → Int → GV) (l : List Int) : GV := f (l.getD 0 0) (l.getD 1 0)
def one1 (f : Int → GV) (l : List Int) : GV := f (l.getD 0 0)
theorem hq2 {g : FuncId} {cap : List V} {f : Int → Int → GV} {ws : List Bool} (hw : ws.length = 2) (h : ∀ x y, goodN x = true → goodN y = true → Ret Tryz.prog g (.row false [[.int .i64 x], [.int .i64 y]] :: cap) (eV (f x y))) : ∀ ns : List Int, ns.length = ws.length → (∀ x ∈ ns, goodN x = true) → Ret Tryz.prog g (.row false (ns.map cI) :: cap) (eV (two f ns)) := by
  intro ns hl hg
  rw [hw] at hl
  match ns, hl with
  | [x, y], _ => exact h x y (hg x (by simp)) (hg y (by simp))
theorem hq1 {g : FuncId} {cap : List V} {f : Int → GV} {ws : List Bool} (hw : ws.length = 1) (h : ∀ x, goodN x = true → Ret Tryz.prog g (.row false [[.int .i64 x]] :: cap) (eV (f x))) : ∀ ns : List Int, ns.length = ws.length → (∀ x ∈ ns, goodN x = true) → Ret Tryz.prog g (.row false (ns.map cI) :: cap) (eV (one1 f ns)) := by
  intro ns hl hg
  rw [hw] at hl
  match ns, hl with
  | [x], _ => exact h x (hg x (by simp))
theorem goodN_b {x : Int} (h : goodN x = true) : -100000000000 ≤ x ∧ x ≤ 100000000000 := by
  simpa only [goodN, decide_eq_true_eq] using h
theorem round_any (nm : ByteArray) (k : Int) (hf : Ret Tryz.prog F_maths_find [.str nm] (.fn F_maths_of_1 [] [.elem [.row false [[.bool false], [.bool true]]], .elem [.fn F_maths_rounds_1 [] [.elem [.int .i64 k]]]])) (l : List Ar) : Ret Tryz.prog F_maths_Call [.str nm, .row false (l.map cA)] (.tup [eV (ofN [false, true] (two fun x d => ofS (Nm.rnd x d k).1 (Nm.rnd x d k).2) l), .bool true]) :=
  mcall_R nm k [false, true] _ _ hf (of1_R k [false, true] _ (by decide) (hq2 rfl (fun x y _ hy => rounds_1 x y k (by have := goodN_b hy; omega) (by have := goodN_b hy; omega))) l)
theorem lv1 : Ret Tryz.prog F_octavolaw17_ask [.str ⟨#[82, 79, 85, 78, 68]⟩, .row false [cA (oA ⟨1, 25000, e0⟩), cA (oA ⟨1, 0, e0⟩)]] (eV ⟨1, 30000, e0⟩) := by
  have h := mask_r _ _ _ (round_any _ _ mfnd_ROUND [oA ⟨1, 25000, e0⟩, oA ⟨1, 0, e0⟩])
  rw [show ofN [false, true] (two fun x d => ofS (Nm.rnd x d 0).1 (Nm.rnd x d 0).2) [oA ⟨1, 25000, e0⟩, oA ⟨1, 0, e0⟩] = ⟨1, 30000, e0⟩ by rfl] at h
  exact h
def bsS (n b : Int) : GV := if n < 0 ∨ b < 2 ∨ 36 < b then badS 5 else ⟨2, 0, strOfNums (Mt.bdgs n b)⟩
theorem bdgs_size (n b : Int) : (strOfNums (Mt.bdgs n b)).size ≤ 38 := by
  rw [Nm.son_size]
  exact Mt.bdg_len 37 (n / b) b [_]
theorem based_r (n b : Int) (hn : goodN n = true) : Ret Tryz.prog F_maths_based [.row false [[.int .i64 n], [.int .i64 b]]] (eV (bsS n b)) := by
  have hb := goodN_b hn
  by_cases h : n < 0 ∨ b < 2 ∨ 36 < b
  · rw [bsS, if_pos h]
    exact based_c [n, b] 4 5 ⟨#[]⟩ (Mt.based_no h) rfl rfl (by decide)
  · rw [bsS, if_neg h]
    have hs := bdgs_size n b
    exact based_c [n, b] 2 0 _ (Mt.based_is (by omega) (by omega) (by omega) (by omega)) rfl rfl (show (strOfNums (Mt.bdgs n b)).size ≤ 9223372036854775807 by omega)
theorem base_any (l : List Ar) : Ret Tryz.prog F_maths_Call [.str ⟨#[66, 65, 83, 69]⟩, .row false (l.map cA)] (.tup [eV (ofN [true, true] (two bsS) l), .bool true]) :=
  mcall_0 _ _ [true, true] _ _ mfnd_BASE (of1_0 _ [true, true] _ (by decide) (hq2 rfl (fun x y hx _ => based_r x y hx)) l)
theorem lv2 : Ret Tryz.prog F_octavolaw17_ask [.str ⟨#[66, 65, 83, 69]⟩, .row false [cA (oA ⟨1, 2550000, e0⟩), cA (oA ⟨1, 160000, e0⟩)]] (eV ⟨2, 0, ⟨#[70, 70]⟩⟩) := by
  have h := mask_r _ _ _ (base_any [oA ⟨1, 2550000, e0⟩, oA ⟨1, 160000, e0⟩])
  rw [show ofN [true, true] (two bsS) [oA ⟨1, 2550000, e0⟩, oA ⟨1, 160000, e0⟩] = ⟨2, 0, ⟨#[70, 70]⟩⟩ by rfl] at h
  exact h
theorem lv3 : Ret Tryz.prog F_octavolaw17_ask [.str ⟨#[65, 66, 83]⟩, .row false []] (eV ⟨4, 2, e0⟩) := by
  have hn : Ret Tryz.prog F_maths_of_1 [.row false [], .elem [.row false [[.bool false]]], .elem [.fn F_maths_plain_1 [] [.elem [.fn F_maths_unary_1 [] []]]]] (eV (badS 2)) := by
    have hf := numbers_far [] [false] (by decide)
    refine r_maths_of_1 rfl fun hw => ?_
    clear hw
    repeat' ((conv => whnf); (first | refine csp (fun h => ?_) (fun h => ?_) | refine cll (hf) (fun _ => ?_) | (refine sda ?_ ?_; (focus (first | rfl | (simp; done)))) | refine sda ?_ ?_ | refine conk rfl ?_ | refine ldk rfl ?_ | refine mapk (fun x hx => ?_) | intro hl))
    all_goals conv => whnf
  exact mask_r _ _ _ (mcall_P _ _ [false] _ _ mfnd_ABS hn)
theorem lv4 : Ret Tryz.prog F_maths_One [eA (oA ⟨1, 5, e0⟩)] (eV ⟨1, 5, e0⟩) := by
  have h := maths_One (oA ⟨1, 5, e0⟩)
  rwa [one_oA (by decide +kernel)] at h
theorem l17_lives : Ret Tryz.prog F_octavolaw17_lives [] (.bool true) := by
  refine r_octavolaw17_lives rfl fun hw => ?_
  clear hw
  repeat' ((conv => whnf); (first | refine csp (fun h => ?_) (fun h => ?_) | refine cll (lv1) (fun _ => ?_) | refine cll (lv2) (fun _ => ?_) | refine cll (lv3) (fun _ => ?_) | refine cll (lv4) (fun _ => ?_) | refine cll (l17_number _) (fun _ => ?_) | (refine sda ?_ ?_; (focus (first | rfl | (simp; done)))) | refine sda ?_ ?_ | refine conk rfl ?_ | refine ldk rfl ?_ | refine mapk (fun x hx => ?_) | intro hl))
  all_goals conv => whnf
  all_goals rfl
end Go.Proofs.YtnpcmgajplikbaaGreatDoor

/- Layer 17: divisors and bits. -/
set_option maxRecDepth 100000
set_option linter.all false
namespace Go.Proofs.YtnpcmgajplikbaaGreatDoor
open Ab R
def whM (k : Int) : GV := if k > 10000000 ∨ -k > 10000000 then badS 5 else ofS (k * 10000) true
theorem maths_whole (k : Int) (hk : -1000000000000 ≤ k ∧ k ≤ 1000000000000) : Ret Tryz.prog F_maths_whole [.int .i64 k] (eV (whM k)) := by
  refine r_maths_whole rfl fun hw => ?_
  clear hw
  repeat' ((conv => whnf); (first | refine csp (fun h => ?_) (fun h => ?_) | refine cll (value_Bad _) (fun _ => ?_) | refine cll (value_Of _ _) (fun _ => ?_) | (refine sda ?_ ?_; (focus (first | rfl | (simp; done)))) | refine sda ?_ ?_ | refine conk rfl ?_ | refine ldk rfl ?_ | refine mapk (fun x hx => ?_) | intro hl))
  all_goals conv => whnf
  all_goals try simp only [decide_eq_true_eq, decide_eq_false_iff_not, Bool.not_eq_true', Bool.not_eq_false', List.length_map, Int.not_lt, Int.not_le, Decidable.not_not, gt_iff_lt, ge_iff_le] at *
  · rw [w64 (by omega)] at h
    rw [whM, if_pos (by split at h <;> omega)]
  · rw [w64 (by omega)] at h
    have hk2 : ¬ (k > 10000000 ∨ -k > 10000000) := by split at h <;> omega
    rw [whM, if_neg hk2, w64 (by omega)]
theorem num_Gcd (a b : Int) : Ret Tryz.prog F_num_Gcd [.int .i64 a, .int .i64 b] (.int .i64 (Mt.gcdS a b)) := by
  have := Mt.gcdS_bd a b
  exact c_num_Gcd a b (Mt.gcdS a b) (Mt.Gcd_is1 a b) (w64 (by omega))
theorem mfind_3 (a b : Int) (hz : a ≠ 0 → b ≠ 0 → Mt.gcdS a b ≠ 0) : Ret Tryz.prog F_maths_find_3 [.int .i64 a, .int .i64 b] (.int .i64 (if a = 0 ∨ b = 0 then 0 else IntKind.i64.wrap (IntKind.i64.wrap (a.tdiv (Mt.gcdS a b)) * b))) := by
  refine r_maths_find_3 rfl fun hw => ?_
  clear hw
  repeat' ((conv => whnf); (first | refine csp (fun h => ?_) (fun h => ?_) | refine cll (num_Gcd _ _) (fun _ => ?_) | (refine sda ?_ ?_; (focus (first | rfl | (simp; done)))) | refine sda ?_ ?_ | refine conk rfl ?_ | refine ldk rfl ?_ | refine mapk (fun x hx => ?_) | intro hl))
  all_goals conv => whnf
  all_goals try simp only [decide_eq_true_eq, decide_eq_false_iff_not, Bool.not_eq_true', Bool.not_eq_false', List.length_map, Int.not_lt, Int.not_le, Decidable.not_not, gt_iff_lt, ge_iff_le] at *
  · rw [if_pos (.inl h)]
  · rw [if_pos (.inr h)]
  · exact absurd (by assumption) (hz (by assumption) (by assumption))
  · rw [if_neg (by omega)]
theorem mfind_4 (a b : Int) : Ret Tryz.prog F_maths_find_4 [.int .i64 a, .int .i64 b] (.int .i64 (IntKind.i64.wrap ((BitVec.ofInt IntKind.i64.bits a &&& BitVec.ofInt IntKind.i64.bits b).toNat : Int))) := by
  refine r_maths_find_4 rfl fun hw => ?_
  clear hw
  repeat' ((conv => whnf); (first | refine csp (fun h => ?_) (fun h => ?_) | (refine sda ?_ ?_; (focus (first | rfl | (simp; done)))) | refine sda ?_ ?_ | refine conk rfl ?_ | refine ldk rfl ?_ | refine mapk (fun x hx => ?_) | intro hl))
  all_goals conv => whnf
theorem mfind_5 (a b : Int) : Ret Tryz.prog F_maths_find_5 [.int .i64 a, .int .i64 b] (.int .i64 (IntKind.i64.wrap ((BitVec.ofInt IntKind.i64.bits a ||| BitVec.ofInt IntKind.i64.bits b).toNat : Int))) := by
  refine r_maths_find_5 rfl fun hw => ?_
  clear hw
  repeat' ((conv => whnf); (first | refine csp (fun h => ?_) (fun h => ?_) | (refine sda ?_ ?_; (focus (first | rfl | (simp; done)))) | refine sda ?_ ?_ | refine conk rfl ?_ | refine ldk rfl ?_ | refine mapk (fun x hx => ?_) | intro hl))
  all_goals conv => whnf
theorem mfind_6 (a b : Int) : Ret Tryz.prog F_maths_find_6 [.int .i64 a, .int .i64 b] (.int .i64 (IntKind.i64.wrap ((BitVec.ofInt IntKind.i64.bits a ^^^ BitVec.ofInt IntKind.i64.bits b).toNat : Int))) := by
  refine r_maths_find_6 rfl fun hw => ?_
  clear hw
  repeat' ((conv => whnf); (first | refine csp (fun h => ?_) (fun h => ?_) | (refine sda ?_ ?_; (focus (first | rfl | (simp; done)))) | refine sda ?_ ?_ | refine conk rfl ?_ | refine ldk rfl ?_ | refine mapk (fun x hx => ?_) | intro hl))
  all_goals conv => whnf
end Go.Proofs.YtnpcmgajplikbaaGreatDoor

/- MathsDivides. -/
set_option maxRecDepth 100000
set_option linter.all false
namespace Go.Proofs.YtnpcmgajplikbaaGreatDoor
open Ab R
theorem tn_num (n : Int) : tn ⟨1, n, e0⟩ = (n, 0) := by simp [tn, Vl.tnum]
theorem goodN_k {k : Int} (h1 : -10000000 ≤ k) (h2 : k ≤ 10000000) : goodN (k * 10000) = true := by
  rw [goodN, decide_eq_true_eq]
  omega
theorem wholeS_num {k : Int} (h1 : -10000000 ≤ k) (h2 : k ≤ 10000000) : wholeS (k * 10000) = (k, true) := by
  rw [wholeS, if_pos ⟨goodN_k h1 h2, Int.mul_tmod_left _ _⟩, Int.mul_tdiv_cancel _ (by decide)]
theorem stN_w {st : List Int × Int} (hs : st.2 = 0) {k : Int} (h1 : -10000000 ≤ k) (h2 : k ≤ 10000000) : stN st (oA ⟨1, k * 10000, e0⟩, true) = (st.1 ++ [k], 0) := by
  rw [stN, if_neg (by rw [hs]; simp), one_oA (goodV_num (goodN_k h1 h2)), tn_num, if_neg (by simp), if_pos rfl, wholeS_num h1 h2, if_pos rfl]
theorem nm_two {x y : Int} (h1 : 0 ≤ x) (h2 : x ≤ 10000000) (h3 : 0 ≤ y) (h4 : y ≤ 10000000) : nmS [oA ⟨1, x * 10000, e0⟩, oA ⟨1, y * 10000, e0⟩] [true, true] = ([x, y], 0) := by
  show List.foldl stN ([], 0) [(oA ⟨1, x * 10000, e0⟩, true), (oA ⟨1, y * 10000, e0⟩, true)] = _
  rw [List.foldl_cons, stN_w rfl (by omega) (by omega), List.foldl_cons, stN_w rfl (by omega) (by omega)]
  rfl
theorem ints_1 (g : FuncId) (x y r : Int) (h1 : 0 ≤ x) (h2 : 0 ≤ y) (hg : Ret Tryz.prog g [.int .i64 x, .int .i64 y] (.int .i64 r)) (hr : -1000000000000 ≤ r ∧ r ≤ 1000000000000) : Ret Tryz.prog F_maths_ints_1 [.row false [[.int .i64 x], [.int .i64 y]], .elem [.fn g [] []]] (eV (whM r)) := by
  refine r_maths_ints_1 rfl fun hw => ?_
  clear hw
  repeat' ((conv => whnf); (first | refine csp (fun h => ?_) (fun h => ?_) | refine cll (value_Bad _) (fun _ => ?_) | refine cll (hg) (fun _ => ?_) | refine cll (maths_whole r hr) (fun _ => ?_) | (refine sda ?_ ?_; (focus (first | rfl | (simp; done)))) | refine sda ?_ ?_ | refine conk rfl ?_ | refine ldk rfl ?_ | refine mapk (fun x hx => ?_) | intro hl))
  all_goals conv => whnf
  all_goals try simp only [decide_eq_true_eq, decide_eq_false_iff_not, Bool.not_eq_true', Bool.not_eq_false', List.length_map, Int.not_lt, Int.not_le, Decidable.not_not, gt_iff_lt, ge_iff_le] at *
  exfalso
  split at h <;> omega
theorem whM_yes {k : Int} (h1 : 0 ≤ k) (h2 : k ≤ 10000000) : whM k = ⟨1, k * 10000, e0⟩ := by
  rw [whM, if_neg (by omega), ofS, goodN_k (by omega) h2]
  rfl
theorem ask_ints (nm : ByteArray) (g : FuncId) (x y r : Int) (h1 : 0 ≤ x) (h2 : x < 3000) (h3 : 0 ≤ y) (h4 : y < 3000) (hf : Ret Tryz.prog F_maths_find [.str nm] (.fn F_maths_of_1 [] [.elem [.row false [[.bool true], [.bool true]]], .elem [.fn F_maths_ints_1 [] [.elem [.fn g [] []]]]]))
    (hg : Ret Tryz.prog g [.int .i64 x, .int .i64 y] (.int .i64 r)) (hr : 0 ≤ r ∧ r ≤ 10000000) : Ret Tryz.prog F_octavolaw17_ask [.str nm, .row false [cA (oA ⟨1, x * 10000, e0⟩), cA (oA ⟨1, y * 10000, e0⟩)]] (eV ⟨1, r * 10000, e0⟩) := by
  have hi := ints_1 g x y r h1 h3 hg (by omega)
  rw [whM_yes hr.1 hr.2] at hi
  have hn := numbers_r [oA ⟨1, x * 10000, e0⟩, oA ⟨1, y * 10000, e0⟩] [true, true] rfl (show 2 ≤ 10 by decide)
  rw [nm_two h1 (by omega) h3 (by omega)] at hn
  have ho : Ret Tryz.prog F_maths_of_1 [.row false [cA (oA ⟨1, x * 10000, e0⟩), cA (oA ⟨1, y * 10000, e0⟩)], .elem [.row false [[.bool true], [.bool true]]], .elem [.fn F_maths_ints_1 [] [.elem [.fn g [] []]]]] (eV ⟨1, r * 10000, e0⟩) := by
    refine r_maths_of_1 rfl fun hw => ?_
    clear hw
    repeat' ((conv => whnf); (first | refine csp (fun h => ?_) (fun h => ?_) | refine cll (hn) (fun _ => ?_) | refine cll (hi) (fun _ => ?_) | (refine sda ?_ ?_; (focus (first | rfl | (simp; done)))) | refine sda ?_ ?_ | refine conk rfl ?_ | refine ldk rfl ?_ | refine mapk (fun x hx => ?_) | intro hl))
    all_goals conv => whnf
  exact mask_r _ _ _ (mcall_I nm g [true, true] _ _ hf ho)
theorem mathsDivides_ret (a b : Int) (ha : IntKind.u64.wrap a = a) (hb : IntKind.u64.wrap b = b) : Ret Tryz.prog F_octavolaw17_MathsDivides [.int .u64 a, .int .u64 b] (.bool true) := by
  have small : ∀ n : Int, IntKind.u64.wrap n = n → ∃ x, IntKind.i64.wrap (n.tmod 3000) = x ∧ 0 ≤ x ∧ x < 3000 := fun n hn => by
    have hr0 := (wrap_iff .u64 n).1 hn
    have h0 : 0 ≤ n := hr0.1
    rw [Int.tmod_eq_emod_of_nonneg h0]
    have e1 := Int.emod_nonneg n (show (3000 : Int) ≠ 0 by omega)
    have e2 := Int.emod_lt_of_pos n (show (0 : Int) < 3000 by omega)
    rw [w64 (n := n % 3000) (by omega)]
    exact ⟨_, rfl, by omega, by omega⟩
  obtain ⟨x, hx, x1, x2⟩ := small a ha
  obtain ⟨y, hy, y1, y2⟩ := small b hb
  have wx : IntKind.i64.wrap (x * 10000) = x * 10000 := w64 (by omega)
  have wy : IntKind.i64.wrap (y * 10000) = y * 10000 := w64 (by omega)
  obtain ⟨g1, g2, g3, g4, g5, g6, g7⟩ := Mt.gcd_facts x1 x2 y1 y2
  have qg := ask_ints _ _ x y _ x1 x2 y1 y2 mfnd_GCD (num_Gcd x y) ⟨g1, by omega⟩
  have hL : 0 ≤ x.tdiv (Mt.gcdS x y) * y ∧ x.tdiv (Mt.gcdS x y) * y ≤ 9000000 := by
    have h1 := Int.mul_nonneg g5 y1
    have h2 := Int.mul_le_mul (show x.tdiv (Mt.gcdS x y) ≤ 3000 by omega) (show y ≤ 3000 by omega) y1 (show (0 : Int) ≤ 3000 by omega)
    omega
  have h3 := mfind_3 x y (fun q _ => fun z => q (g4 z).1)
  rw [w64 (n := x.tdiv (Mt.gcdS x y)) (by omega), w64 (n := x.tdiv (Mt.gcdS x y) * y) (by omega)] at h3
  have hxy : 0 ≤ x * y ∧ x * y ≤ 9000000 := by
    have h1 := Int.mul_nonneg x1 y1
    have h2 := Int.mul_le_mul (show x ≤ 3000 by omega) (show y ≤ 3000 by omega) y1 (show (0 : Int) ≤ 3000 by omega)
    omega
  have hLe : ∃ L, (if x = 0 ∨ y = 0 then (0 : Int) else x.tdiv (Mt.gcdS x y) * y) = L ∧ 0 ≤ L ∧ L ≤ 9000000 ∧ Mt.gcdS x y * L = x * y := by
    by_cases h0 : x = 0 ∨ y = 0
    · rw [if_pos h0]
      refine ⟨0, rfl, by omega, by omega, ?_⟩
      rcases h0 with h0 | h0 <;> subst h0 <;> simp
    · rw [if_neg h0]
      exact ⟨_, rfl, hL.1, hL.2, g7 (fun q => h0 (.inl (g4 q).1))⟩
  obtain ⟨L, hLe, L0, L1, LK⟩ := hLe
  rw [hLe] at h3
  have ql := ask_ints _ _ x y _ x1 x2 y1 y2 mfnd_LCM h3 (by omega)
  have bx := Mt.bv_nat x1 (by omega)
  have by_ := Mt.bv_nat y1 (by omega)
  have hb4 := mfind_4 x y
  have hb5 := mfind_5 x y
  have hb6 := mfind_6 x y
  obtain ⟨t1, t2⟩ := Mt.bits x.toNat y.toNat
  rw [BitVec.toNat_and, bx, by_] at hb4
  rw [BitVec.toNat_or, bx, by_] at hb5
  rw [BitVec.toNat_xor, bx, by_] at hb6
  generalize x.toNat &&& y.toNat = p at *
  generalize x.toNat ||| y.toNat = o at *
  generalize x.toNat ^^^ y.toNat = u at *
  rw [w64 (by omega)] at hb4 hb5 hb6
  have q4 := ask_ints _ _ x y _ x1 x2 y1 y2 mfnd_BITAND hb4 (by omega)
  have q5 := ask_ints _ _ x y _ x1 x2 y1 y2 mfnd_BITOR hb5 (by omega)
  have q6 := ask_ints _ _ x y _ x1 x2 y1 y2 mfnd_BITXOR hb6 (by omega)
  rw [← wx, ← wy] at qg ql q4 q5 q6
  have E1 : IntKind.i64.wrap ((Mt.gcdS x y * 10000).tdiv 10000) = Mt.gcdS x y := by rw [Int.mul_tdiv_cancel _ (by decide)]; exact w64 (by omega)
  have E2 : IntKind.i64.wrap ((L * 10000).tdiv 10000) = L := by rw [Int.mul_tdiv_cancel _ (by decide)]; exact w64 (by omega)
  have E3 : IntKind.i64.wrap (x + y) = x + y := w64 (by omega)
  have E4 : IntKind.i64.wrap (Mt.gcdS x y * L) = x * y := by rw [LK]; exact w64 (by omega)
  have E5 : IntKind.i64.wrap (x * y) = x * y := w64 (by omega)
  have E6 : IntKind.i64.wrap ((p : Int) * 10000 + u * 10000) = p * 10000 + u * 10000 := w64 (by omega)
  have E7 : IntKind.i64.wrap ((p : Int) * 10000 + o * 10000) = p * 10000 + o * 10000 := w64 (by omega)
  have E8 : IntKind.i64.wrap ((x + y) * 10000) = (x + y) * 10000 := w64 (by omega)
  refine r_octavolaw17_MathsDivides rfl fun hw => ?_
  clear hw
  repeat' ((conv => whnf); (first | refine csp (fun h => ?_) (fun h => ?_) | (refine sda ?_ ?_; (focus (first | rfl | (simp; done)))) | refine sda ?_ ?_ | refine conk rfl ?_ | refine ldk rfl ?_ | refine mapk (fun x hx => ?_) | intro hl))
  conv => whnf
  rw [hx, hy]
  repeat' ((conv => whnf); (first | refine csp (fun h => ?_) (fun h => ?_) | refine cll (l17_number _) (fun _ => ?_) | refine cll (qg) (fun _ => ?_) | refine cll (ql) (fun _ => ?_) | refine cll (q4) (fun _ => ?_) | refine cll (q5) (fun _ => ?_) | refine cll (q6) (fun _ => ?_) | refine cll (l17_lives) (fun _ => ?_) | (refine sda ?_ ?_; (focus (first | rfl | (simp; done)))) | refine sda ?_ ?_ | refine conk rfl ?_ | refine ldk rfl ?_ | refine mapk (fun x hx => ?_) | intro hl))
  all_goals conv => whnf
  all_goals try simp only [decide_eq_true_eq, decide_eq_false_iff_not, Bool.not_eq_true', Bool.not_eq_false', List.length_map, Int.not_lt, Int.not_le, Decidable.not_not, gt_iff_lt, ge_iff_le] at *
  all_goals exfalso
  all_goals simp only [E1, E2, E3, E4, E5, E6, E7, E8] at *
  all_goals first | omega | exact h trivial
end Go.Proofs.YtnpcmgajplikbaaGreatDoor
