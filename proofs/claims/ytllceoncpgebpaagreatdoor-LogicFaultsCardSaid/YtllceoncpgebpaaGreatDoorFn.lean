/- What the functions answer, and the law. -/
import Derived.Test.YtllceoncpgebpaaGreatDoorR
import Derived.Test.YtllceoncpgebpaaGreatDoorB
import Derived.Test.YtllceoncpgebpaaGreatDoorPl
/- Values and areas as the program holds them; what the functions of layers 5, 6 and 17 answer of them. -/
set_option maxRecDepth 100000
set_option linter.all false
namespace Go.Proofs.YtllceoncpgebpaaGreatDoor
open Ab R
theorem cll {P : Program} {g : FuncId} {args : List V} {r : V} {K : V → Prop} (h : Ret P g args r) (k : wfV 8 r → K r) : ∃ r, Ret P g args r ∧ (wfV 8 r → K r) := ⟨r, h, k⟩
theorem sda {p q : Prop} (h : p) (k : q) : Sd p ∧ q := ⟨⟨h⟩, k⟩
theorem conk {els : List (List V)} {i : Nat} {c : List V} {K : List V → Prop} (h : els[i]? = some c) (k : K c) : ∀ cs, els[i]? = some cs → K cs := fun cs hcs => by
  rw [h] at hcs
  rw [← Option.some.inj hcs]
  exact k
theorem ldk {o : Option V} {w : V} {K : V → Prop} (h : o = some w) (k : K w) : ∀ v, o = some v → K v := fun v hv => by
  rw [h] at hv
  rw [← Option.some.inj hv]
  exact k
theorem mapk {α : Type} {l : List α} {f : α → List V} {i : Nat} {K : List V → Prop} (h : ∀ x, l[i]? = some x → K (f x)) : ∀ cs, (l.map f)[i]? = some cs → K cs := fun cs hcs => by
  rw [List.getElem?_map] at hcs
  cases hx : l[i]? with
  | none => rw [hx] at hcs; cases hcs
  | some x => rw [hx] at hcs; obtain rfl := Option.some.inj hcs; exact h x hx
structure GV where
  k : Int
  n : Int
  s : ByteArray
abbrev cV (v : GV) : List V := [.int .i64 v.k, .int .i64 v.n, .str v.s]
abbrev eV (v : GV) : V := .agg (cV v)
structure Ar where
  rows : Int
  cols : Int
  l : List GV
  many : Bool
abbrev cA (a : Ar) : List V := [.int .i64 a.rows, .int .i64 a.cols, .row false (a.l.map cV), .bool a.many]
abbrev eA (a : Ar) : V := .agg (cA a)
abbrev e0 : ByteArray := ⟨#[]⟩
def badS (n : Int) : GV := ⟨4, if n < 1 ∨ n > 8 then 2 else n, e0⟩
theorem value_Bad (n : Int) : Ret Tryz.prog F_value_Bad [.int .i64 n] (eV (badS n)) := by
  refine r_value_Bad rfl fun _ => ?_
  ((conv => whnf); refine csp (fun h => ?_) (fun h => ?_))
  · conv => whnf
    simp_all [badS]
  · ((conv => whnf); refine csp (fun h => ?_) (fun h => ?_))
    · conv => whnf
      simp_all [badS]
    · conv => whnf
      simp_all [badS]
      omega
def goodN (n : Int) : Bool := decide (-100000000000 ≤ n ∧ n ≤ 100000000000)
theorem num_Good (n : Int) : Ret Tryz.prog F_num_Good [.int .i64 n] (.bool (goodN n)) := by
  refine r_num_Good rfl fun _ => ?_
  ((conv => whnf); refine csp (fun h => ?_) (fun h => ?_))
  · conv => whnf
    simp_all [goodN]
  · conv => whnf
    simp_all [goodN]
    try omega
def ofS (n : Int) (ok : Bool) : GV := if ok && goodN n then ⟨1, n, e0⟩ else badS 5
theorem value_Of (n : Int) (ok : Bool) : Ret Tryz.prog F_value_Of [.int .i64 n, .bool ok] (eV (ofS n ok)) := by
  refine r_value_Of rfl fun _ => ?_
  ((conv => whnf); refine csp (fun h => ?_) (fun h => ?_))
  · refine cll (num_Good _) (fun _ => ?_)
    ((conv => whnf); refine csp (fun h => ?_) (fun h => ?_))
    · conv => whnf
      simp_all [ofS]
    · refine cll (value_Bad _) (fun _ => ?_)
      conv => whnf
      simp_all [ofS]
  · refine cll (value_Bad _) (fun _ => ?_)
    conv => whnf
    simp_all [ofS]
/-- The program's own forms of a value. -/
def ownS (v : GV) : V :=
  if v.k = 0 then .iface 88 (.agg []) else if v.k = 1 then .iface 89 (.int .i64 v.n) else if v.k = 2 then .iface 91 (.str v.s)
  else if v.k = 3 then .iface 90 (.bool (!decide (v.n = 0))) else if v.k = 4 then .iface 94 (.int .i64 v.n) else .nilI
theorem value_own (v : GV) : Ret Tryz.prog F_value_own [eV v] (ownS v) := by
  refine r_value_own rfl fun _ => ?_
  ((conv => whnf); refine csp (fun h => ?_) (fun h => ?_))
  · conv => whnf
    simp_all [ownS]
  ((conv => whnf); refine csp (fun h => ?_) (fun h => ?_))
  · conv => whnf
    simp_all [ownS]
  ((conv => whnf); refine csp (fun h => ?_) (fun h => ?_))
  · conv => whnf
    simp_all [ownS]
  ((conv => whnf); refine csp (fun h => ?_) (fun h => ?_))
  · conv => whnf
    simp_all [ownS]
  ((conv => whnf); refine csp (fun h => ?_) (fun h => ?_))
  · conv => whnf
    simp_all [ownS]
  conv => whnf
  simp_all [ownS]
def goodV (v : GV) : Bool :=
  if v.k = 0 then decide (v.n = 0 ∧ v.s = e0) else if v.k = 1 then goodN v.n && decide (v.s = e0) else if v.k = 2 then decide (v.n = 0 ∧ v.s.size ≤ 255)
  else if v.k = 3 then decide ((v.n = 0 ∨ v.n = 1) ∧ v.s = e0) else if v.k = 4 then decide (1 ≤ v.n ∧ v.n ≤ 8 ∧ v.s = e0) else false
theorem own0 {v : GV} (h : v.k = 0) : Ret Tryz.prog F_value_own [eV v] (.iface 88 (.agg [])) := by have := value_own v; simpa [ownS, h] using this
theorem own1 {v : GV} (h : v.k = 1) : Ret Tryz.prog F_value_own [eV v] (.iface 89 (.int .i64 v.n)) := by have := value_own v; simpa [ownS, h] using this
theorem own2 {v : GV} (h : v.k = 2) : Ret Tryz.prog F_value_own [eV v] (.iface 91 (.str v.s)) := by have := value_own v; simpa [ownS, h] using this
theorem own3 {v : GV} (h : v.k = 3) : Ret Tryz.prog F_value_own [eV v] (.iface 90 (.bool (!decide (v.n = 0)))) := by have := value_own v; simpa [ownS, h] using this
theorem own4 {v : GV} (h : v.k = 4) : Ret Tryz.prog F_value_own [eV v] (.iface 94 (.int .i64 v.n)) := by have := value_own v; simpa [ownS, h] using this
theorem own5 {v : GV} (h : ¬ v.k = 0) (h1 : ¬ v.k = 1) (h2 : ¬ v.k = 2) (h3 : ¬ v.k = 3) (h4 : ¬ v.k = 4) : Ret Tryz.prog F_value_own [eV v] .nilI := by have := value_own v; simpa [ownS, h, h1, h2, h3, h4] using this
theorem value_Good (v : GV) : Ret Tryz.prog F_value_Good [eV v] (.bool (goodV v)) := by
  obtain ⟨k, n, s⟩ := v
  by_cases h0 : k = 0
  · subst h0
    refine r_value_Good rfl fun _ => ?_
    repeat' ((conv => whnf); (first | refine csp (fun h => ?_) (fun h => ?_) | refine cll (own0 rfl) (fun _ => ?_) | refine cll (num_Good _) (fun _ => ?_) | (refine sda ?_ ?_; (focus (first | rfl | (simp; done)))) | refine sda ?_ ?_ | refine conk rfl ?_ | refine ldk rfl ?_ | refine mapk (fun x hx => ?_) | intro hl))
    all_goals conv => whnf
    all_goals simp_all [goodV]
  by_cases h1 : k = 1
  · subst h1
    refine r_value_Good rfl fun _ => ?_
    repeat' ((conv => whnf); (first | refine csp (fun h => ?_) (fun h => ?_) | refine cll (own1 rfl) (fun _ => ?_) | refine cll (num_Good _) (fun _ => ?_) | (refine sda ?_ ?_; (focus (first | rfl | (simp; done)))) | refine sda ?_ ?_ | refine conk rfl ?_ | refine ldk rfl ?_ | refine mapk (fun x hx => ?_) | intro hl))
    all_goals conv => whnf
    all_goals simp_all [goodV]
  by_cases h2 : k = 2
  · subst h2
    refine r_value_Good rfl fun _ => ?_
    repeat' ((conv => whnf); (first | refine csp (fun h => ?_) (fun h => ?_) | refine cll (own2 rfl) (fun _ => ?_) | refine cll (num_Good _) (fun _ => ?_) | (refine sda ?_ ?_; (focus (first | rfl | (simp; done)))) | refine sda ?_ ?_ | refine conk rfl ?_ | refine ldk rfl ?_ | refine mapk (fun x hx => ?_) | intro hl))
    all_goals conv => whnf
    all_goals simp_all [goodV]
    all_goals omega
  by_cases h3 : k = 3
  · subst h3
    refine r_value_Good rfl fun _ => ?_
    repeat' ((conv => whnf); (first | refine csp (fun h => ?_) (fun h => ?_) | refine cll (own3 rfl) (fun _ => ?_) | refine cll (num_Good _) (fun _ => ?_) | (refine sda ?_ ?_; (focus (first | rfl | (simp; done)))) | refine sda ?_ ?_ | refine conk rfl ?_ | refine ldk rfl ?_ | refine mapk (fun x hx => ?_) | intro hl))
    all_goals conv => whnf
    all_goals simp_all [goodV]
  by_cases h4 : k = 4
  · subst h4
    refine r_value_Good rfl fun _ => ?_
    repeat' ((conv => whnf); (first | refine csp (fun h => ?_) (fun h => ?_) | refine cll (own4 rfl) (fun _ => ?_) | refine cll (num_Good _) (fun _ => ?_) | (refine sda ?_ ?_; (focus (first | rfl | (simp; done)))) | refine sda ?_ ?_ | refine conk rfl ?_ | refine ldk rfl ?_ | refine mapk (fun x hx => ?_) | intro hl))
    all_goals conv => whnf
    all_goals simp_all [goodV]
    all_goals omega
  · refine r_value_Good rfl fun _ => ?_
    repeat' ((conv => whnf); (first | refine csp (fun h => ?_) (fun h => ?_) | refine cll (own5 h0 h1 h2 h3 h4) (fun _ => ?_) | (refine sda ?_ ?_; (focus (first | rfl | (simp; done)))) | refine sda ?_ ?_ | refine conk rfl ?_ | refine ldk rfl ?_ | refine mapk (fun x hx => ?_) | intro hl))
    all_goals conv => whnf
    all_goals simp_all [goodV]
/-- The number of a value, or the error's; a text is not asked. -/
def toNumS (v : GV) : Int × Int := if v.k = 0 then (0, 0) else if v.k = 1 then (v.n, 0) else if v.k = 3 then (if v.n = 0 then 0 else 10000, 0) else if v.k = 4 then (0, v.n) else (0, 2)
theorem value_ToNum (v : GV) (h2 : ¬ v.k = 2) : Ret Tryz.prog F_value_ToNum [eV v] (.tup [.int .i64 (toNumS v).1, .int .i64 (toNumS v).2]) := by
  obtain ⟨k, n, s⟩ := v
  by_cases h0 : k = 0
  · subst h0
    refine r_value_ToNum rfl fun _ => ?_
    repeat' ((conv => whnf); (first | refine csp (fun h => ?_) (fun h => ?_) | refine cll (own0 rfl) (fun _ => ?_) | (refine sda ?_ ?_; (focus (first | rfl | (simp; done)))) | refine sda ?_ ?_ | refine conk rfl ?_ | refine ldk rfl ?_ | refine mapk (fun x hx => ?_) | intro hl))
    all_goals conv => whnf
    all_goals simp_all [toNumS]
  by_cases h1 : k = 1
  · subst h1
    refine r_value_ToNum rfl fun _ => ?_
    repeat' ((conv => whnf); (first | refine csp (fun h => ?_) (fun h => ?_) | refine cll (own1 rfl) (fun _ => ?_) | (refine sda ?_ ?_; (focus (first | rfl | (simp; done)))) | refine sda ?_ ?_ | refine conk rfl ?_ | refine ldk rfl ?_ | refine mapk (fun x hx => ?_) | intro hl))
    all_goals conv => whnf
    all_goals simp_all [toNumS]
  by_cases h3 : k = 3
  · subst h3
    refine r_value_ToNum rfl fun _ => ?_
    repeat' ((conv => whnf); (first | refine csp (fun h => ?_) (fun h => ?_) | refine cll (own3 rfl) (fun _ => ?_) | (refine sda ?_ ?_; (focus (first | rfl | (simp; done)))) | refine sda ?_ ?_ | refine conk rfl ?_ | refine ldk rfl ?_ | refine mapk (fun x hx => ?_) | intro hl))
    all_goals conv => whnf
    all_goals simp_all [toNumS]
  by_cases h4 : k = 4
  · subst h4
    refine r_value_ToNum rfl fun _ => ?_
    repeat' ((conv => whnf); (first | refine csp (fun h => ?_) (fun h => ?_) | refine cll (own4 rfl) (fun _ => ?_) | (refine sda ?_ ?_; (focus (first | rfl | (simp; done)))) | refine sda ?_ ?_ | refine conk rfl ?_ | refine ldk rfl ?_ | refine mapk (fun x hx => ?_) | intro hl))
    all_goals conv => whnf
    all_goals simp_all [toNumS]
  · refine r_value_ToNum rfl fun _ => ?_
    repeat' ((conv => whnf); (first | refine csp (fun h => ?_) (fun h => ?_) | refine cll (own5 h0 h1 h2 h3 h4) (fun _ => ?_) | (refine sda ?_ ?_; (focus (first | rfl | (simp; done)))) | refine sda ?_ ?_ | refine conk rfl ?_ | refine ldk rfl ?_ | refine mapk (fun x hx => ?_) | intro hl))
    all_goals conv => whnf
    all_goals simp_all [toNumS]
def goodA (a : Ar) : Bool := decide (1 ≤ a.rows ∧ 1 ≤ a.cols ∧ a.rows ≤ 4096 ∧ a.cols ≤ 4096 ∧ (a.l.length : Int) = a.rows * a.cols) && a.l.all goodV
theorem take_good {l : List GV} {i : Nat} {x : GV} {p : GV → Bool} (hx : l[i]? = some x) (h : (l.take i).all p = true) (hp : p x = true) : (l.take (i + 1)).all p = true := by
  rw [List.take_add_one, hx]
  simp only [Option.toList, List.all_append, h, List.all_cons, hp, List.all_nil, Bool.and_self]
theorem w64 {n : Int} (h : -9223372036854775808 ≤ n ∧ n ≤ 9223372036854775807) : IntKind.i64.wrap n = n := (wrap_iff .i64 n).2 (by simp only [kLo, kHi]; omega)
theorem mulb {r c : Int} (h1 : 1 ≤ r) (h2 : r ≤ 4096) (h3 : 1 ≤ c) (h4 : c ≤ 4096) : 1 ≤ r * c ∧ r * c ≤ 16777216 :=
  ⟨by have := Int.mul_le_mul h1 h3 (by omega) (by omega); omega, by have := Int.mul_le_mul h2 h4 (by omega) (by omega); omega⟩
theorem goodA_no {a : Ar} {i : Nat} {x : GV} (hx : a.l[i]? = some x) (h : goodV x = false) : goodA a = false := by
  unfold goodA
  rw [Bool.and_eq_false_iff]
  right
  rw [List.all_eq_false]
  exact ⟨x, List.mem_of_getElem? hx, by simp [h]⟩
theorem goodA_bad {a : Ar} (h : ¬ (1 ≤ a.rows ∧ 1 ≤ a.cols ∧ a.rows ≤ 4096 ∧ a.cols ≤ 4096 ∧ (a.l.length : Int) = a.rows * a.cols)) : goodA a = false := by
  unfold goodA
  rw [decide_eq_false h, Bool.false_and]
theorem goodA_yes {a : Ar} (h : 1 ≤ a.rows ∧ 1 ≤ a.cols ∧ a.rows ≤ 4096 ∧ a.cols ≤ 4096 ∧ (a.l.length : Int) = a.rows * a.cols) (hl : a.l.all goodV = true) : goodA a = true := by
  unfold goodA
  rw [decide_eq_true h, hl, Bool.true_and]
theorem maths_Good (a : Ar) : Ret Tryz.prog F_maths_Good [eA a] (.bool (goodA a)) := by
  refine r_maths_Good rfl fun hw => ?_
  clear hw
  repeat' ((conv => whnf); (first | refine csp (fun h => ?_) (fun h => ?_) | (refine sda ?_ ?_; (focus (first | rfl | (simp; done)))) | refine sda ?_ ?_ | refine conk rfl ?_ | refine ldk rfl ?_ | refine mapk (fun x hx => ?_) | intro hl))
  rotate_right
  · try simp only [decide_eq_true_eq, decide_eq_false_iff_not, Bool.not_eq_true', Bool.not_eq_false', List.length_map, Int.not_lt, Int.not_le, Decidable.not_not, gt_iff_lt, ge_iff_le] at *
    have hm := mulb (r := a.rows) (c := a.cols) (by omega) (by omega) (by omega) (by omega)
    have hL : (a.l.length : Int) = a.rows * a.cols := by
      have := w64 (n := a.rows * a.cols) (by omega)
      omega
    refine ⟨Int, [35, 36, 37], [], fun i => [(35, .row false (a.l.map cV)), (36, .int .i64 a.l.length), (37, .int .i64 i)], fun _ => [], fun i => 0 ≤ i ∧ i ≤ a.l.length ∧ (a.l.take i.toNat).all goodV = true, fun i => (a.l.length - i).toNat, rfl, ?_, fun i hi => ?_⟩
    · exact ⟨0, rfl, rfl, by simp⟩
    · obtain ⟨hi0, hi1, hi2⟩ := hi
      repeat' ((conv => whnf); (first | refine csp (fun h => ?_) (fun h => ?_) | refine cll (value_Good _) (fun _ => ?_) | (refine sda ?_ ?_; (focus (first | rfl | (simp; done)))) | refine sda ?_ ?_ | refine conk rfl ?_ | refine ldk rfl ?_ | refine mapk (fun x hx => ?_) | intro hl))
      · try simp only [decide_eq_true_eq, decide_eq_false_iff_not, Bool.not_eq_true', Bool.not_eq_false', List.length_map, Int.not_lt, Int.not_le, Decidable.not_not, gt_iff_lt, ge_iff_le] at *
        omega
      · conv => whnf
        rw [goodA_no hx (by simpa using h)]
      · conv => whnf
        try simp only [decide_eq_true_eq, decide_eq_false_iff_not, Bool.not_eq_true', Bool.not_eq_false', List.length_map, Int.not_lt, Int.not_le, Decidable.not_not, gt_iff_lt, ge_iff_le] at *
        have hw1 := w64 (n := i + 1) (by omega)
        refine ⟨i + 1, by rw [hw1], by trivial, ⟨by omega, by omega, ?_⟩, by omega⟩
        rw [show (i + 1).toNat = i.toNat + 1 by omega]
        exact take_good hx hi2 h
      · conv => whnf
        try simp only [decide_eq_true_eq, decide_eq_false_iff_not, Bool.not_eq_true', Bool.not_eq_false', List.length_map, Int.not_lt, Int.not_le, Decidable.not_not, gt_iff_lt, ge_iff_le] at *
        rw [goodA_yes (by omega)]
        have : a.l.take i.toNat = a.l := List.take_of_length_le (by omega)
        rwa [this] at hi2
  all_goals conv => whnf
  all_goals try simp only [decide_eq_true_eq, decide_eq_false_iff_not, Bool.not_eq_true', Bool.not_eq_false', List.length_map, Int.not_lt, Int.not_le, Decidable.not_not, gt_iff_lt, ge_iff_le] at *
  · rw [goodA_bad (by omega)]
  · rw [goodA_bad (by omega)]
  · rw [goodA_bad (by omega)]
  · rw [goodA_bad (by omega)]
  · have hm := mulb (r := a.rows) (c := a.cols) (by omega) (by omega) (by omega) (by omega)
    rw [w64 (by omega)] at h
    rw [goodA_bad (by omega)]
end Go.Proofs.YtllceoncpgebpaaGreatDoor

/- One value of an area, whole numbers. -/
set_option maxRecDepth 100000
set_option linter.all false
namespace Go.Proofs.YtllceoncpgebpaaGreatDoor
open Ab R
def oneS (a : Ar) : GV := if a.l.length = 1 ∧ goodA a = true then a.l.headD ⟨0, 0, e0⟩ else badS 2
theorem maths_One (a : Ar) : Ret Tryz.prog F_maths_One [eA a] (eV (oneS a)) := by
  refine r_maths_One rfl fun hw => ?_
  clear hw
  repeat' ((conv => whnf); (first | refine csp (fun h => ?_) (fun h => ?_) | refine cll (maths_Good _) (fun _ => ?_) | refine cll (value_Bad _) (fun _ => ?_) | (refine sda ?_ ?_; (focus (first | rfl | (simp; done)))) | refine sda ?_ ?_ | refine conk rfl ?_ | refine ldk rfl ?_ | refine mapk (fun x hx => ?_) | intro hl))
  all_goals conv => whnf
  all_goals try simp only [decide_eq_true_eq, decide_eq_false_iff_not, Bool.not_eq_true', Bool.not_eq_false', List.length_map, Int.not_lt, Int.not_le, Decidable.not_not, gt_iff_lt, ge_iff_le] at *
  · rw [oneS, if_neg (fun q => by omega)]
  · rw [oneS, if_neg (by rw [h]; simp)]
  · omega
  · obtain ⟨r, c, l, m⟩ := a
    cases l with
    | nil => cases hx
    | cons y l =>
      cases hx
      rw [oneS, if_pos ⟨by omega, h⟩]
      rfl
def wholeS (n : Int) : Int × Bool := if goodN n = true ∧ n.tmod 10000 = 0 then (n.tdiv 10000, true) else (0, false)
theorem tdivb {n : Int} (h : goodN n = true) : -10000000 ≤ n.tdiv 10000 ∧ n.tdiv 10000 ≤ 10000000 := by
  simp only [goodN, decide_eq_true_eq] at h
  rw [Int.tdiv_eq_ediv]
  split
  · omega
  · simp only [show Int.sign 10000 = 1 from rfl]
    omega
theorem num_Whole (n : Int) : Ret Tryz.prog F_num_Whole [.int .i64 n] (.tup [.int .i64 (wholeS n).1, .bool (wholeS n).2]) := by
  refine r_num_Whole rfl fun hw => ?_
  clear hw
  repeat' ((conv => whnf); (first | refine csp (fun h => ?_) (fun h => ?_) | refine cll (num_Good _) (fun _ => ?_) | (refine sda ?_ ?_; (focus (first | rfl | (simp; done)))) | refine sda ?_ ?_ | refine conk rfl ?_ | refine ldk rfl ?_ | refine mapk (fun x hx => ?_) | intro hl))
  all_goals conv => whnf
  all_goals try simp only [decide_eq_true_eq, decide_eq_false_iff_not, Bool.not_eq_true', Bool.not_eq_false', List.length_map, Int.not_lt, Int.not_le, Decidable.not_not, gt_iff_lt, ge_iff_le] at *
  · rw [wholeS, if_neg (by simp [h])]
  · rw [wholeS, if_neg (fun q => h q.2)]
  · have h1 : goodN n = true := by assumption
    have := tdivb h1
    rw [wholeS, if_pos ⟨h1, h⟩, w64 (by omega)]
theorem goodA_out {a : Ar} (h : goodA a = true) : (1 ≤ a.rows ∧ 1 ≤ a.cols ∧ a.rows ≤ 4096 ∧ a.cols ≤ 4096 ∧ (a.l.length : Int) = a.rows * a.cols) ∧ a.l.all goodV = true := by
  unfold goodA at h
  simp only [Bool.and_eq_true, decide_eq_true_eq] at h
  exact h
theorem bytesb {a b : Nat} (h1 : a ≤ 11) (h2 : Nat.ble b 1000 = true) : Nat.le (a * b) 140737488355327 := by
  have := Nat.le_of_ble_eq_true h2
  have := Nat.mul_le_mul h1 this
  show a * b ≤ 140737488355327
  omega
end Go.Proofs.YtllceoncpgebpaaGreatDoor

/- Values with texts: what they are turned into, out of the walks. -/
set_option maxRecDepth 100000
set_option linter.all false
namespace Go.Proofs.YtllceoncpgebpaaGreatDoor
open Ab R
theorem goodV_size {v : GV} (h : goodV v = true) : v.s.size ≤ 255 := by
  unfold goodV at h
  split at h
  · simp only [decide_eq_true_eq] at h; rw [h.2]; decide
  · split at h
    · simp only [Bool.and_eq_true, decide_eq_true_eq] at h; rw [h.2]; decide
    · split at h
      · simp only [decide_eq_true_eq] at h; exact h.2
      · split at h
        · simp only [decide_eq_true_eq] at h; rw [h.2]; decide
        · split at h
          · simp only [decide_eq_true_eq] at h; rw [h.2.2]; decide
          · cases h
theorem goodV_bad (n : Int) : goodV (badS n) = true := by
  unfold goodV badS
  simp
  split <;> omega
theorem oneS_good (a : Ar) : goodV (oneS a) = true := by
  unfold oneS
  split
  · rename_i h
    obtain ⟨h1, h2⟩ := h
    have h3 := (goodA_out h2).2
    match hl : a.l, h1 with
    | [x], _ => rw [hl] at h3; simpa using h3
  · exact goodV_bad 2
theorem prs_good (s : ByteArray) : -100000000000 ≤ (Vl.tnum 2 0 s).1 ∧ (Vl.tnum 2 0 s).1 ≤ 100000000000 := by
  have out_b : ∀ n : Int, -100000000000 ≤ (Nm.out n).1 ∧ (Nm.out n).1 ≤ 100000000000 := fun n => by
    unfold Nm.out
    split
    · rename_i h; exact h
    · simp
  have fin_b : ∀ b W R p, -100000000000 ≤ (Nm.fin b W R p).1 ∧ (Nm.fin b W R p).1 ≤ 100000000000 := fun b W R p => by
    unfold Nm.fin
    split
    · exact out_b _
    · simp
  have : -100000000000 ≤ (Nm.prs s).1 ∧ (Nm.prs s).1 ≤ 100000000000 := by
    unfold Nm.prs
    split
    · exact fin_b _ _ _ _
    · exact fin_b _ _ _ _
  show -100000000000 ≤ (if (Nm.prs s).2 = true then ((Nm.prs s).1, 0) else (0, 2) : Int × Int).1 ∧ (if (Nm.prs s).2 = true then ((Nm.prs s).1, 0) else (0, 2) : Int × Int).1 ≤ 100000000000
  split
  · exact this
  · simp
/-- A value's number, or its error. -/
abbrev tn (v : GV) : Int × Int := Vl.tnum v.k v.n v.s
theorem tn_good {v : GV} (h : goodV v = true) : goodN (tn v).1 = true ∧ 0 ≤ (tn v).2 ∧ (tn v).2 ≤ 8 ∧ ((tn v).2 ≠ 0 → (tn v).1 = 0) := by
  obtain ⟨k, n, s⟩ := v
  have hp := prs_good s
  unfold goodV at h
  simp only [tn, Vl.tnum] at *
  by_cases h0 : k = 0
  · subst h0
    simp [goodN]
  by_cases h1 : k = 1
  · subst h1
    simp at h ⊢
    exact h.1
  by_cases h3 : k = 3
  · subst h3
    simp only [if_neg h0, if_neg h1]
    simp
    split <;> simp [goodN]
  by_cases h2 : k = 2
  · subst h2
    simp only [if_neg h0, if_neg h1, if_neg h3] at *
    simp at hp ⊢
    split
    · rename_i hh
      rw [if_pos hh] at hp
      simpa [goodN] using hp
    · simp [goodN]
  by_cases h4 : k = 4
  · subst h4
    simp at h ⊢
    simp [goodN]
    omega
  simp [h0, h1, h2, h3, h4] at h
theorem ToNum_g (v : GV) (h : goodV v = true) : Ret Tryz.prog F_value_ToNum [eV v] (.tup [.int .i64 (tn v).1, .int .i64 (tn v).2]) := by
  have hs := goodV_size h
  obtain ⟨b1, b2, b3, _⟩ := tn_good h
  simp only [goodN, decide_eq_true_eq] at b1
  exact c_value_ToNum v.k v.n v.s (tn v).1 (tn v).2 (Vl.ToNum_is (by omega)) (w64 (by omega)) (w64 (by omega))
/-- A value's truth, or its error. -/
abbrev tb (v : GV) : Bool × Int := Vl.tboo v.k v.n v.s
theorem tb_good {v : GV} (h : goodV v = true) : 0 ≤ (tb v).2 ∧ (tb v).2 ≤ 8 := by
  obtain ⟨k, n, s⟩ := v
  unfold goodV at h
  simp only [tb, Vl.tboo] at *
  by_cases h0 : k = 0
  · subst h0; simp
  by_cases h1 : k = 1
  · subst h1; simp
  by_cases h2 : k = 2
  · subst h2; simp; split <;> simp
  by_cases h3 : k = 3
  · subst h3; simp
  by_cases h4 : k = 4
  · subst h4; simp at h ⊢; omega
  simp [h0, h1, h2, h3, h4] at h
theorem ToBool_g (v : GV) (h : goodV v = true) : Ret Tryz.prog F_value_ToBool [eV v] (.tup [.bool (tb v).1, .int .i64 (tb v).2]) := by
  have hs := goodV_size h
  obtain ⟨b2, b3⟩ := tb_good h
  exact c_value_ToBool v.k v.n v.s (tb v).1 (tb v).2 (Vl.ToBool_is (by omega)) (w64 (by omega))
/-- A value's text, or its error. -/
noncomputable abbrev tx (v : GV) : ByteArray × Int := Vl.ttxt v.k v.n v.s
theorem tx_good {v : GV} (h : goodV v = true) : (tx v).1.size ≤ 255 ∧ 0 ≤ (tx v).2 ∧ (tx v).2 ≤ 8 := by
  have hs := goodV_size h
  obtain ⟨k, n, s⟩ := v
  unfold goodV at h
  simp only [tx, Vl.ttxt, Vl.txt] at *
  by_cases h0 : k = 0
  · subst h0; simp; decide
  by_cases h1 : k = 1
  · subst h1
    simp at h ⊢
    have hg := h.1
    simp only [goodN, decide_eq_true_eq] at hg
    have := Vl.prt_sz (n := n) (by omega) (by omega)
    omega
  by_cases h2 : k = 2
  · subst h2; simp; exact hs
  by_cases h3 : k = 3
  · subst h3; simp; split <;> decide
  by_cases h4 : k = 4
  · subst h4; simp at h ⊢; exact ⟨by decide, by omega, by omega⟩
  simp [h0, h1, h2, h3, h4] at h
theorem goodV_n {v : GV} (h : goodV v = true) : -100000000000 ≤ v.n ∧ v.n ≤ 100000000000 := by
  unfold goodV at h
  split at h
  · simp only [decide_eq_true_eq] at h; omega
  · split at h
    · simp only [Bool.and_eq_true, goodN, decide_eq_true_eq] at h; exact h.1
    · split at h
      · simp only [decide_eq_true_eq] at h; omega
      · split at h
        · simp only [decide_eq_true_eq] at h; omega
        · split at h
          · simp only [decide_eq_true_eq] at h; omega
          · cases h
theorem ToText_g (v : GV) (h : goodV v = true) : Ret Tryz.prog F_value_ToText [eV v] (.tup [.str (tx v).1, .int .i64 (tx v).2]) := by
  have hs := goodV_n h
  obtain ⟨b1, b2, b3⟩ := tx_good h
  exact c_value_ToText v.k v.n v.s (tx v).1 (tx v).2 (Vl.ToText_is (by omega) (by omega)) (by omega) (w64 (by omega))
end Go.Proofs.YtllceoncpgebpaaGreatDoor

/- The document's good values and areas; how light arguments are. -/
set_option maxRecDepth 100000
set_option linter.all false
namespace Go.Proofs.YtllceoncpgebpaaGreatDoor
open Ab R
theorem ref05_Good (n : Int) : Ret Tryz.prog F_octavoref05_Good [.int .i64 n] (.bool (goodN n)) := by
  refine r_octavoref05_Good rfl fun _ => ?_
  repeat' ((conv => whnf); (first | refine csp (fun h => ?_) (fun h => ?_) | (refine sda ?_ ?_; (focus (first | rfl | (simp; done)))) | refine sda ?_ ?_ | refine conk rfl ?_ | refine ldk rfl ?_ | refine mapk (fun x hx => ?_) | intro hl))
  all_goals conv => whnf
  all_goals simp_all [goodN]
  all_goals omega
theorem ref06_Good (v : GV) : Ret Tryz.prog F_octavoref06_Good [eV v] (.bool (goodV v)) := by
  refine r_octavoref06_Good rfl fun hw => ?_
  clear hw
  repeat' ((conv => whnf); (first | refine csp (fun h => ?_) (fun h => ?_) | refine cll (ref05_Good _) (fun _ => ?_) | (refine sda ?_ ?_; (focus (first | rfl | (simp; done)))) | refine sda ?_ ?_ | refine conk rfl ?_ | refine ldk rfl ?_ | refine mapk (fun x hx => ?_) | intro hl))
  all_goals conv => whnf
  all_goals simp_all [goodV]
  all_goals omega
def lightV (n : Int) (v : GV) : Int := IntKind.i64.wrap (n + IntKind.i64.wrap ((v.s.size : Int).tdiv 50))
def lightA (n : Int) (a : Ar) : Int := a.l.foldl lightV (IntKind.i64.wrap (n + a.l.length))
def lightS (l : List Ar) : Bool := decide (l.foldl lightA l.length < 400)
theorem fold_take {α β : Type} {f : β → α → β} {b : β} {l : List α} {i : Nat} {x : α} (hx : l[i]? = some x) : (l.take (i + 1)).foldl f b = f ((l.take i).foldl f b) x := by
  rw [List.take_add_one, hx]
  simp [List.foldl_append]
theorem law_light19 (l : List Ar) : Ret Tryz.prog F_octavolaw19_light [.row false (l.map cA)] (.bool (lightS l)) := by
  refine r_octavolaw19_light rfl fun hw => ?_
  clear hw
  repeat' ((conv => whnf); (first | refine csp (fun h => ?_) (fun h => ?_) | (refine sda ?_ ?_; (focus (first | rfl | (simp; done)))) | refine sda ?_ ?_ | refine conk rfl ?_ | refine ldk rfl ?_ | refine mapk (fun x hx => ?_) | intro hl))
  try simp only [decide_eq_true_eq, decide_eq_false_iff_not, Bool.not_eq_true', Bool.not_eq_false', List.length_map, Int.not_lt, Int.not_le, Decidable.not_not, gt_iff_lt, ge_iff_le] at *
  refine ⟨Nat, [3, 10, 11, 12], [], fun i => [(3, .int .i64 ((l.take i).foldl lightA l.length)), (10, .row false (l.map cA)), (11, .int .i64 l.length), (12, .int .i64 i)], fun _ => [], fun i => i ≤ l.length, fun i => l.length - i, rfl, ?_, fun i hi => ?_⟩
  · exact ⟨0, rfl, by trivial, Nat.zero_le _⟩
  · repeat' ((conv => whnf); (first | refine csp (fun h => ?_) (fun h => ?_) | (refine sda ?_ ?_; (focus (first | rfl | (simp; done)))) | refine sda ?_ ?_ | refine conk rfl ?_ | refine ldk rfl ?_ | refine mapk (fun x hx => ?_) | intro hl))
    · try simp only [decide_eq_true_eq, decide_eq_false_iff_not, Bool.not_eq_true', Bool.not_eq_false', List.length_map, Int.not_lt, Int.not_le, Decidable.not_not, gt_iff_lt, ge_iff_le] at *
      omega
    · rename Ar => y
      rename l[_]? = some y => hy
      have hy' : l[i]? = some y := hy
      have hly : y.l.length ≤ 9223372036854775807 := by simpa using hl
      have hlt := (List.getElem?_eq_some_iff.1 hy').1
      try simp only [decide_eq_true_eq, decide_eq_false_iff_not, Bool.not_eq_true', Bool.not_eq_false', List.length_map, Int.not_lt, Int.not_le, Decidable.not_not, gt_iff_lt, ge_iff_le] at *
      refine ⟨Nat, [3, 10, 11, 12, 22, 23, 24], [], fun k => [(3, .int .i64 ((y.l.take k).foldl lightV (IntKind.i64.wrap ((l.take i).foldl lightA l.length + y.l.length)))), (10, .row false (l.map cA)), (11, .int .i64 l.length), (12, .int .i64 i), (22, .row false (y.l.map cV)), (23, .int .i64 y.l.length), (24, .int .i64 k)], fun _ => [], fun k => k ≤ y.l.length, fun k => y.l.length - k, rfl, ?_, fun k hk => ?_⟩
      · exact ⟨0, rfl, by trivial, Nat.zero_le _⟩
      · repeat' ((conv => whnf); (first | refine csp (fun h => ?_) (fun h => ?_) | (refine sda ?_ ?_; (focus (first | rfl | (simp; done)))) | refine sda ?_ ?_ | refine conk rfl ?_ | refine ldk rfl ?_ | refine mapk (fun x hx => ?_) | intro hl))
        all_goals conv => whnf
        all_goals try simp only [decide_eq_true_eq, decide_eq_false_iff_not, Bool.not_eq_true', Bool.not_eq_false', List.length_map, Int.not_lt, Int.not_le, Decidable.not_not, gt_iff_lt, ge_iff_le] at *
        · omega
        · have hx' : y.l[k]? = some x := hx
          refine ⟨k + 1, ?_, by trivial, by omega, by omega⟩
          rw [fold_take hx', w64 (n := (k : Int) + 1) (by omega)]
          rfl
        · refine ⟨i + 1, ?_, by trivial, by omega, by omega⟩
          have hk2 : y.l.take k = y.l := List.take_of_length_le (by omega)
          rw [fold_take hy', w64 (n := (i : Int) + 1) (by omega), hk2]
          rfl
    · conv => whnf
      try simp only [decide_eq_true_eq, decide_eq_false_iff_not, Bool.not_eq_true', Bool.not_eq_false', List.length_map, Int.not_lt, Int.not_le, Decidable.not_not, gt_iff_lt, ge_iff_le] at *
      have : l.take i = l := List.take_of_length_le (by omega)
      rw [this]
      rfl
end Go.Proofs.YtllceoncpgebpaaGreatDoor

/- Layer 19's helpers. -/
set_option maxRecDepth 100000
set_option linter.all false
namespace Go.Proofs.YtllceoncpgebpaaGreatDoor
open Ab R
def truS (b : Bool) : GV := ⟨3, if b = true then 1 else 0, e0⟩
theorem logic_truth (b : Bool) : Ret Tryz.prog F_logic_truth [.bool b] (eV (truS b)) := by
  refine r_logic_truth rfl fun hw => ?_
  clear hw
  repeat' ((conv => whnf); (first | refine csp (fun h => ?_) (fun h => ?_) | (refine sda ?_ ?_; (focus (first | rfl | (simp; done)))) | refine sda ?_ ?_ | refine conk rfl ?_ | refine ldk rfl ?_ | refine mapk (fun x hx => ?_) | intro hl))
  all_goals conv => whnf
  all_goals simp_all [truS]
def whS (k : Int) : GV := ofS (IntKind.i64.wrap (k * 10000)) true
theorem logic_whole (k : Int) : Ret Tryz.prog F_logic_whole [.int .i64 k] (eV (whS k)) := by
  refine r_logic_whole rfl fun hw => ?_
  clear hw
  repeat' ((conv => whnf); (first | refine csp (fun h => ?_) (fun h => ?_) | refine cll (value_Of _ _) (fun _ => ?_) | (refine sda ?_ ?_; (focus (first | rfl | (simp; done)))) | refine sda ?_ ?_ | refine conk rfl ?_ | refine ldk rfl ?_ | refine mapk (fun x hx => ?_) | intro hl))
  all_goals conv => whnf
  all_goals rfl
def toldS (d : Int) (ok : Bool) : GV := if ok = true then whS d else badS 5
theorem logic_told (d : Int) (ok : Bool) : Ret Tryz.prog F_logic_told [.int .i64 d, .bool ok] (eV (toldS d ok)) := by
  refine r_logic_told rfl fun hw => ?_
  clear hw
  repeat' ((conv => whnf); (first | refine csp (fun h => ?_) (fun h => ?_) | refine cll (value_Bad _) (fun _ => ?_) | refine cll (logic_whole _) (fun _ => ?_) | (refine sda ?_ ?_; (focus (first | rfl | (simp; done)))) | refine sda ?_ ?_ | refine conk rfl ?_ | refine ldk rfl ?_ | refine mapk (fun x hx => ?_) | intro hl))
  all_goals conv => whnf
  all_goals simp_all [toldS]
theorem l19_one (v : GV) : Ret Tryz.prog F_octavolaw19_one [eV v] (eA ⟨1, 1, [v], false⟩) := by
  refine r_octavolaw19_one rfl fun hw => ?_
  clear hw
  repeat' ((conv => whnf); (first | refine csp (fun h => ?_) (fun h => ?_) | (refine sda ?_ ?_; (focus (first | rfl | (simp; done)))) | refine sda ?_ ?_ | refine conk rfl ?_ | refine ldk rfl ?_ | refine mapk (fun x hx => ?_) | intro hl))
  all_goals conv => whnf
  all_goals rfl
theorem l19_number (n : Int) : Ret Tryz.prog F_octavolaw19_number [.int .i64 n] (eA ⟨1, 1, [⟨1, n, e0⟩], false⟩) := by
  refine r_octavolaw19_number rfl fun hw => ?_
  clear hw
  repeat' ((conv => whnf); (first | refine csp (fun h => ?_) (fun h => ?_) | refine cll (l19_one ⟨1, n, e0⟩) (fun _ => ?_) | (refine sda ?_ ?_; (focus (first | rfl | (simp; done)))) | refine sda ?_ ?_ | refine conk rfl ?_ | refine ldk rfl ?_ | refine mapk (fun x hx => ?_) | intro hl))
  all_goals conv => whnf
theorem l19_text (s : ByteArray) : Ret Tryz.prog F_octavolaw19_text [.str s] (eA ⟨1, 1, [⟨2, 0, s⟩], false⟩) := by
  refine r_octavolaw19_text rfl fun hw => ?_
  clear hw
  repeat' ((conv => whnf); (first | refine csp (fun h => ?_) (fun h => ?_) | refine cll (l19_one ⟨2, 0, s⟩) (fun _ => ?_) | (refine sda ?_ ?_; (focus (first | rfl | (simp; done)))) | refine sda ?_ ?_ | refine conk rfl ?_ | refine ldk rfl ?_ | refine mapk (fun x hx => ?_) | intro hl))
  all_goals conv => whnf
theorem l19_call0 (nm : ByteArray) (g : FuncId)  (n : Int) (args : List (List V)) (r : GV) (hf : Ret Tryz.prog F_logic_find [.str nm] (.tup [.fn g [] [], .int .i64 n])) (hr : Ret Tryz.prog g [.row false args] (eV r)) (h1 : (n < 0 ∧ args.length ≠ 0) ∨ n = args.length) :
    Ret Tryz.prog F_logic_Call [.str nm, .row false args] (.tup [eV r, .bool true]) := by
  refine r_logic_Call rfl fun hw => ?_
  clear hw
  repeat' ((conv => whnf); (first | refine csp (fun h => ?_) (fun h => ?_) | refine cll (hf) (fun _ => ?_) | refine cll (hr) (fun _ => ?_) | refine cll (value_Bad _) (fun _ => ?_) | (refine sda ?_ ?_; (focus (first | rfl | (simp; done)))) | refine sda ?_ ?_ | refine conk rfl ?_ | refine ldk rfl ?_ | refine mapk (fun x hx => ?_) | intro hl))
  all_goals conv => whnf
  all_goals try simp only [decide_eq_true_eq, decide_eq_false_iff_not, Bool.not_eq_true', Bool.not_eq_false', List.length_map, Int.not_lt, Int.not_le, Decidable.not_not, gt_iff_lt, ge_iff_le] at *
  all_goals exfalso
  all_goals omega
theorem l19_ask0 (nm : ByteArray) (g : FuncId)  (n : Int) (args : List (List V)) (r : GV) (hf : Ret Tryz.prog F_logic_find [.str nm] (.tup [.fn g [] [], .int .i64 n])) (hr : Ret Tryz.prog g [.row false args] (eV r)) (h1 : (n < 0 ∧ args.length ≠ 0) ∨ n = args.length) :
    Ret Tryz.prog F_octavolaw19_ask [.str nm, .row false args] (eV r) := by
  have hc := l19_call0 nm g  n args r hf hr h1
  refine r_octavolaw19_ask rfl fun hw => ?_
  clear hw
  repeat' ((conv => whnf); (first | refine csp (fun h => ?_) (fun h => ?_) | refine cll (hc) (fun _ => ?_) | (refine sda ?_ ?_; (focus (first | rfl | (simp; done)))) | refine sda ?_ ?_ | refine conk rfl ?_ | refine ldk rfl ?_ | refine mapk (fun x hx => ?_) | intro hl))
  all_goals conv => whnf
theorem l19_callF (nm : ByteArray) (g : FuncId) (f : FuncId) (n : Int) (args : List (List V)) (r : GV) (hf : Ret Tryz.prog F_logic_find [.str nm] (.tup [.fn g [] [.elem [.fn f [] []]], .int .i64 n])) (hr : Ret Tryz.prog g [.row false args, .elem [.fn f [] []]] (eV r)) (h1 : (n < 0 ∧ args.length ≠ 0) ∨ n = args.length) :
    Ret Tryz.prog F_logic_Call [.str nm, .row false args] (.tup [eV r, .bool true]) := by
  refine r_logic_Call rfl fun hw => ?_
  clear hw
  repeat' ((conv => whnf); (first | refine csp (fun h => ?_) (fun h => ?_) | refine cll (hf) (fun _ => ?_) | refine cll (hr) (fun _ => ?_) | refine cll (value_Bad _) (fun _ => ?_) | (refine sda ?_ ?_; (focus (first | rfl | (simp; done)))) | refine sda ?_ ?_ | refine conk rfl ?_ | refine ldk rfl ?_ | refine mapk (fun x hx => ?_) | intro hl))
  all_goals conv => whnf
  all_goals try simp only [decide_eq_true_eq, decide_eq_false_iff_not, Bool.not_eq_true', Bool.not_eq_false', List.length_map, Int.not_lt, Int.not_le, Decidable.not_not, gt_iff_lt, ge_iff_le] at *
  all_goals exfalso
  all_goals omega
theorem l19_askF (nm : ByteArray) (g : FuncId) (f : FuncId) (n : Int) (args : List (List V)) (r : GV) (hf : Ret Tryz.prog F_logic_find [.str nm] (.tup [.fn g [] [.elem [.fn f [] []]], .int .i64 n])) (hr : Ret Tryz.prog g [.row false args, .elem [.fn f [] []]] (eV r)) (h1 : (n < 0 ∧ args.length ≠ 0) ∨ n = args.length) :
    Ret Tryz.prog F_octavolaw19_ask [.str nm, .row false args] (eV r) := by
  have hc := l19_callF nm g f n args r hf hr h1
  refine r_octavolaw19_ask rfl fun hw => ?_
  clear hw
  repeat' ((conv => whnf); (first | refine csp (fun h => ?_) (fun h => ?_) | refine cll (hc) (fun _ => ?_) | (refine sda ?_ ?_; (focus (first | rfl | (simp; done)))) | refine sda ?_ ?_ | refine conk rfl ?_ | refine ldk rfl ?_ | refine mapk (fun x hx => ?_) | intro hl))
  all_goals conv => whnf
theorem l19_callK (nm : ByteArray) (g : FuncId) (f : FuncId) (k : Int) (n : Int) (args : List (List V)) (r : GV) (hf : Ret Tryz.prog F_logic_find [.str nm] (.tup [.fn g [] [.elem [.fn f [] [.elem [.int .i64 k]]]], .int .i64 n])) (hr : Ret Tryz.prog g [.row false args, .elem [.fn f [] [.elem [.int .i64 k]]]] (eV r)) (h1 : (n < 0 ∧ args.length ≠ 0) ∨ n = args.length) :
    Ret Tryz.prog F_logic_Call [.str nm, .row false args] (.tup [eV r, .bool true]) := by
  refine r_logic_Call rfl fun hw => ?_
  clear hw
  repeat' ((conv => whnf); (first | refine csp (fun h => ?_) (fun h => ?_) | refine cll (hf) (fun _ => ?_) | refine cll (hr) (fun _ => ?_) | refine cll (value_Bad _) (fun _ => ?_) | (refine sda ?_ ?_; (focus (first | rfl | (simp; done)))) | refine sda ?_ ?_ | refine conk rfl ?_ | refine ldk rfl ?_ | refine mapk (fun x hx => ?_) | intro hl))
  all_goals conv => whnf
  all_goals try simp only [decide_eq_true_eq, decide_eq_false_iff_not, Bool.not_eq_true', Bool.not_eq_false', List.length_map, Int.not_lt, Int.not_le, Decidable.not_not, gt_iff_lt, ge_iff_le] at *
  all_goals exfalso
  all_goals omega
theorem l19_callB (nm : ByteArray) (g : FuncId) (b : Bool) (n : Int) (args : List (List V)) (r : GV) (hf : Ret Tryz.prog F_logic_find [.str nm] (.tup [.fn g [] [.elem [.bool b]], .int .i64 n])) (hr : Ret Tryz.prog g [.row false args, .elem [.bool b]] (eV r)) (h1 : (n < 0 ∧ args.length ≠ 0) ∨ n = args.length) :
    Ret Tryz.prog F_logic_Call [.str nm, .row false args] (.tup [eV r, .bool true]) := by
  refine r_logic_Call rfl fun hw => ?_
  clear hw
  repeat' ((conv => whnf); (first | refine csp (fun h => ?_) (fun h => ?_) | refine cll (hf) (fun _ => ?_) | refine cll (hr) (fun _ => ?_) | refine cll (value_Bad _) (fun _ => ?_) | (refine sda ?_ ?_; (focus (first | rfl | (simp; done)))) | refine sda ?_ ?_ | refine conk rfl ?_ | refine ldk rfl ?_ | refine mapk (fun x hx => ?_) | intro hl))
  all_goals conv => whnf
  all_goals try simp only [decide_eq_true_eq, decide_eq_false_iff_not, Bool.not_eq_true', Bool.not_eq_false', List.length_map, Int.not_lt, Int.not_le, Decidable.not_not, gt_iff_lt, ge_iff_le] at *
  all_goals exfalso
  all_goals omega
theorem l19_callV (nm : ByteArray) (g : FuncId) (v : GV) (n : Int) (args : List (List V)) (r : GV) (hf : Ret Tryz.prog F_logic_find [.str nm] (.tup [.fn g [] [.elem (cV v)], .int .i64 n])) (hr : Ret Tryz.prog g [.row false args, .elem (cV v)] (eV r)) (h1 : (n < 0 ∧ args.length ≠ 0) ∨ n = args.length) :
    Ret Tryz.prog F_logic_Call [.str nm, .row false args] (.tup [eV r, .bool true]) := by
  refine r_logic_Call rfl fun hw => ?_
  clear hw
  repeat' ((conv => whnf); (first | refine csp (fun h => ?_) (fun h => ?_) | refine cll (hf) (fun _ => ?_) | refine cll (hr) (fun _ => ?_) | refine cll (value_Bad _) (fun _ => ?_) | (refine sda ?_ ?_; (focus (first | rfl | (simp; done)))) | refine sda ?_ ?_ | refine conk rfl ?_ | refine ldk rfl ?_ | refine mapk (fun x hx => ?_) | intro hl))
  all_goals conv => whnf
  all_goals try simp only [decide_eq_true_eq, decide_eq_false_iff_not, Bool.not_eq_true', Bool.not_eq_false', List.length_map, Int.not_lt, Int.not_le, Decidable.not_not, gt_iff_lt, ge_iff_le] at *
  all_goals exfalso
  all_goals omega
end Go.Proofs.YtllceoncpgebpaaGreatDoor

/- Layer 19: votes. -/
set_option maxRecDepth 100000
set_option linter.all false
namespace Go.Proofs.YtllceoncpgebpaaGreatDoor
open Ab R
theorem foldT {α β : Type} {f : β → α → β} {b : β} {l : List α} {i : Nat} {x : α} (hx : l[i]? = some x) : (l.take (i + 1)).foldl f b = f ((l.take i).foldl f b) x := by
  rw [List.take_add_one, hx]
  simp [List.foldl_append]
theorem foldD {α β : Type} {f : β → α → β} {b : β} {l : List α} {i : Nat} {x : α} (hx : l[i]? = some x) : l.foldl f b = (l.drop (i + 1)).foldl f (f ((l.take i).foldl f b) x) := by
  conv => lhs; rw [← List.take_append_drop (i + 1) l]
  rw [List.foldl_append, foldT hx]
def stV (many : Bool) (st : Int × Int × Int) (v : GV) : Int × Int × Int :=
  if st.1 ≠ 0 then st else if many = true ∧ (v.k = 0 ∨ v.k = 2) then st else if 0 < (tb v).2 then ((tb v).2, 0, 0) else if (tb v).1 = true then (0, IntKind.i64.wrap (st.2.1 + 1), st.2.2) else (0, st.2.1, IntKind.i64.wrap (st.2.2 + 1))
def stA (st : Int × Int × Int) (a : Ar) : Int × Int × Int :=
  if st.1 ≠ 0 then st else if goodA a = false then (2, 0, 0) else a.l.foldl (stV (decide (1 < (a.l.length : Int)))) st
def votesS (l : List Ar) : Int × Int × Int := l.foldl stA (0, 0, 0)
theorem stV_err (m : Bool) : ∀ (l : List GV) (st : Int × Int × Int), st.1 ≠ 0 → l.foldl (stV m) st = st
  | [], _, _ => rfl
  | v :: l, st, h => by rw [List.foldl_cons, stV, if_pos h]; exact stV_err m l st h
theorem stA_err : ∀ (l : List Ar) (st : Int × Int × Int), st.1 ≠ 0 → l.foldl stA st = st
  | [], _, _ => rfl
  | v :: l, st, h => by rw [List.foldl_cons, stA, if_pos h]; exact stA_err l st h
theorem goodA_mem {a : Ar} (h : goodA a = true) {v : GV} (hv : v ∈ a.l) : goodV v = true := List.all_eq_true.1 (goodA_out h).2 v hv
def inS (l : List Ar) (i : Nat) (y : Ar) (k : Nat) : Int × Int × Int := (y.l.take k).foldl (stV (decide (1 < (y.l.length : Int)))) ((l.take i).foldl stA (0, 0, 0))
theorem inS_next {l : List Ar} {i : Nat} {y : Ar} {k : Nat} {x : GV} (hx : y.l[k]? = some x) : inS l i y (k + 1) = stV (decide (1 < (y.l.length : Int))) (inS l i y k) x := foldT hx
theorem inS_err {l : List Ar} {i : Nat} {y : Ar} {k : Nat} {x : GV} (hy : l[i]? = some y) (hg : goodA y = true) (h0 : ((l.take i).foldl stA (0, 0, 0)).1 = 0) (hx : y.l[k]? = some x) (he : (stV (decide (1 < (y.l.length : Int))) (inS l i y k) x).1 ≠ 0) :
    votesS l = stV (decide (1 < (y.l.length : Int))) (inS l i y k) x := by
  have h1 : stA ((l.take i).foldl stA (0, 0, 0)) y = stV (decide (1 < (y.l.length : Int))) (inS l i y k) x := by
    rw [stA, if_neg (by rw [h0]; simp), if_neg (by rw [hg]; simp), foldD hx]
    exact stV_err _ _ _ he
  rw [votesS, foldD hy, h1]
  exact stA_err _ _ he
theorem inS_end {l : List Ar} {i : Nat} {y : Ar} (hy : l[i]? = some y) (hg : goodA y = true) (h0 : ((l.take i).foldl stA (0, 0, 0)).1 = 0) {k : Nat} (hk : k = y.l.length) : (l.take (i + 1)).foldl stA (0, 0, 0) = inS l i y k := by
  rw [foldT hy, stA, if_neg (by rw [h0]; simp), if_neg (by rw [hg]; simp), inS, hk, List.take_length]
theorem votes_1 (f : FuncId) (p : Int → Int → Bool) (hf : ∀ y n, Ret Tryz.prog f [.int .i64 y, .int .i64 n] (.bool (p y n))) (l : List Ar) :
    Ret Tryz.prog F_logic_votes_1 [.row false (l.map cA), .elem [.fn f [] []]] (eV (if (votesS l).1 ≠ 0 then badS (votesS l).1 else truS (p (votesS l).2.1 (votesS l).2.2))) := by
  refine r_logic_votes_1 rfl fun hw => ?_
  clear hw
  repeat' ((conv => whnf); (first | refine csp (fun h => ?_) (fun h => ?_) | (refine sda ?_ ?_; (focus (first | rfl | (simp; done)))) | refine sda ?_ ?_ | refine conk rfl ?_ | refine ldk rfl ?_ | refine mapk (fun x hx => ?_) | intro hl))
  try simp only [decide_eq_true_eq, decide_eq_false_iff_not, Bool.not_eq_true', Bool.not_eq_false', List.length_map, Int.not_lt, Int.not_le, Decidable.not_not, gt_iff_lt, ge_iff_le] at *
  refine ⟨Nat, [1, 3, 4, 5, 12, 13, 14], [0], fun i => [(1, .elem [.fn f [] []]), (3, .ptr 0 0), (4, .int .i64 ((l.take i).foldl stA (0, 0, 0)).2.1), (5, .int .i64 ((l.take i).foldl stA (0, 0, 0)).2.2), (12, .row false (l.map cA)), (13, .int .i64 l.length), (14, .int .i64 i)], fun _ => [.box true (cV ⟨0, 0, e0⟩)], fun i => i ≤ l.length ∧ ((l.take i).foldl stA (0, 0, 0)).1 = 0, fun i => l.length - i, rfl, ?_, fun i hi => ?_⟩
  · exact ⟨0, rfl, by trivial, Nat.zero_le _, rfl⟩
  · obtain ⟨hi, h0⟩ := hi
    repeat' ((conv => whnf); (first | refine csp (fun h => ?_) (fun h => ?_) | refine cll (maths_Good _) (fun _ => ?_) | refine cll (value_Bad _) (fun _ => ?_) | (refine sda ?_ ?_; (focus (first | rfl | (simp; done)))) | refine sda ?_ ?_ | refine conk rfl ?_ | refine ldk rfl ?_ | refine mapk (fun x hx => ?_) | intro hl))
    · try simp only [decide_eq_true_eq, decide_eq_false_iff_not, Bool.not_eq_true', Bool.not_eq_false', List.length_map, Int.not_lt, Int.not_le, Decidable.not_not, gt_iff_lt, ge_iff_le] at *
      omega
    · have hx' : l[i]? = some x := hx
      conv => whnf
      try simp only [decide_eq_true_eq, decide_eq_false_iff_not, Bool.not_eq_true', Bool.not_eq_false', List.length_map, Int.not_lt, Int.not_le, Decidable.not_not, gt_iff_lt, ge_iff_le] at *
      have e : votesS l = (2, 0, 0) := by rw [votesS, foldD hx', stA, if_neg (by rw [h0]; simp), if_pos h]; exact stA_err _ _ (by simp)
      rw [e]
      rfl
    · rename Ar => y
      rename l[_]? = some y => hy
      have hy' : l[i]? = some y := hy
      have hlt := (List.getElem?_eq_some_iff.1 hy').1
      try simp only [decide_eq_true_eq, decide_eq_false_iff_not, Bool.not_eq_true', Bool.not_eq_false', List.length_map, Int.not_lt, Int.not_le, Decidable.not_not, gt_iff_lt, ge_iff_le] at *
      have hg : goodA y = true := by assumption
      refine ⟨Nat, [1, 3, 4, 5, 7, 12, 13, 14, 23, 24, 25], [0, 1], fun k => [(1, .elem [.fn f [] []]), (3, .ptr 0 0), (4, .int .i64 (inS l i y k).2.1), (5, .int .i64 (inS l i y k).2.2), (7, .ptr 1 0), (12, .row false (l.map cA)), (13, .int .i64 l.length), (14, .int .i64 i), (23, .row false (y.l.map cV)), (24, .int .i64 y.l.length), (25, .int .i64 k)], fun _ => [.box true (cV ⟨0, 0, e0⟩), .box true (cA y)], fun k => k ≤ y.l.length ∧ (inS l i y k).1 = 0, fun k => y.l.length - k, rfl, ?_, fun k hk => ?_⟩
      · exact ⟨0, rfl, by trivial, Nat.zero_le _, h0⟩
      · obtain ⟨hk, hk0⟩ := hk
        repeat' ((conv => whnf); (first | refine csp (fun h => ?_) (fun h => ?_) | refine cll (ToBool_g _ (goodA_mem hg (List.mem_of_getElem? hx))) (fun _ => ?_) | refine cll (value_Bad _) (fun _ => ?_) | (refine sda ?_ ?_; (focus (first | rfl | (simp; done)))) | refine sda ?_ ?_ | refine conk rfl ?_ | refine ldk rfl ?_ | refine mapk (fun x hx => ?_) | intro hl))
        all_goals conv => whnf
        all_goals try simp only [decide_eq_true_eq, decide_eq_false_iff_not, Bool.not_eq_true', Bool.not_eq_false', List.length_map, Int.not_lt, Int.not_le, Decidable.not_not, gt_iff_lt, ge_iff_le] at *
        · omega
        · have hx' : y.l[k]? = some x := hx
          have e : stV (decide (1 < (y.l.length : Int))) (inS l i y k) x = inS l i y k := by rw [stV, if_neg (by rw [hk0]; simp), if_pos ⟨decide_eq_true (by assumption), by simp [h]⟩]
          refine ⟨k + 1, ?_, by trivial, ⟨by omega, by rw [inS_next hx', e]; exact hk0⟩, by omega⟩
          rw [inS_next hx', e, w64 (by omega)]
          rfl
        · have hx' : y.l[k]? = some x := hx
          have e : stV (decide (1 < (y.l.length : Int))) (inS l i y k) x = inS l i y k := by rw [stV, if_neg (by rw [hk0]; simp), if_pos ⟨decide_eq_true (by assumption), by simp [h]⟩]
          refine ⟨k + 1, ?_, by trivial, ⟨by omega, by rw [inS_next hx', e]; exact hk0⟩, by omega⟩
          rw [inS_next hx', e, w64 (by omega)]
          rfl
        · have hx' : y.l[k]? = some x := hx
          have e : stV (decide (1 < (y.l.length : Int))) (inS l i y k) x = ((tb x).2, 0, 0) := by rw [stV, if_neg (by rw [hk0]; simp), if_neg (fun q => by have := of_decide_eq_true q.1; rcases q.2 with a | a <;> omega), if_pos h]
          have e2 := inS_err hy' hg h0 hx' (by rw [e]; simp only; omega)
          rw [e] at e2
          rw [e2, if_pos (by simp only; omega)]
        · have hx' : y.l[k]? = some x := hx
          rename (tb x).1 = true => hb
          have e : stV (decide (1 < (y.l.length : Int))) (inS l i y k) x = (0, IntKind.i64.wrap ((inS l i y k).2.1 + 1), (inS l i y k).2.2) := by rw [stV, if_neg (by rw [hk0]; simp), if_neg (fun q => by have := of_decide_eq_true q.1; rcases q.2 with a | a <;> omega), if_neg (by omega), hb]; rfl
          refine ⟨k + 1, ?_, by trivial, ⟨by omega, by rw [inS_next hx', e]⟩, by omega⟩
          rw [inS_next hx', e, w64 (n := (k : Int) + 1) (by omega)]
          rfl
        · have hx' : y.l[k]? = some x := hx
          rename (tb x).1 = false => hb
          have e : stV (decide (1 < (y.l.length : Int))) (inS l i y k) x = (0, (inS l i y k).2.1, IntKind.i64.wrap ((inS l i y k).2.2 + 1)) := by rw [stV, if_neg (by rw [hk0]; simp), if_neg (fun q => by have := of_decide_eq_true q.1; rcases q.2 with a | a <;> omega), if_neg (by omega), hb]; rfl
          refine ⟨k + 1, ?_, by trivial, ⟨by omega, by rw [inS_next hx', e]⟩, by omega⟩
          rw [inS_next hx', e, w64 (n := (k : Int) + 1) (by omega)]
          rfl
        · have hx' : y.l[k]? = some x := hx
          have e : stV (decide (1 < (y.l.length : Int))) (inS l i y k) x = ((tb x).2, 0, 0) := by rw [stV, if_neg (by rw [hk0]; simp), if_neg (fun q => by have := of_decide_eq_true q.1; rcases q.2 with a | a <;> omega), if_pos h]
          have e2 := inS_err hy' hg h0 hx' (by rw [e]; simp only; omega)
          rw [e] at e2
          rw [e2, if_pos (by simp only; omega)]
        · have hx' : y.l[k]? = some x := hx
          rename (tb x).1 = true => hb
          have e : stV (decide (1 < (y.l.length : Int))) (inS l i y k) x = (0, IntKind.i64.wrap ((inS l i y k).2.1 + 1), (inS l i y k).2.2) := by rw [stV, if_neg (by rw [hk0]; simp), if_neg (fun q => by have := of_decide_eq_true q.1; rcases q.2 with a | a <;> omega), if_neg (by omega), hb]; rfl
          refine ⟨k + 1, ?_, by trivial, ⟨by omega, by rw [inS_next hx', e]⟩, by omega⟩
          rw [inS_next hx', e, w64 (n := (k : Int) + 1) (by omega)]
          rfl
        · have hx' : y.l[k]? = some x := hx
          rename (tb x).1 = false => hb
          have e : stV (decide (1 < (y.l.length : Int))) (inS l i y k) x = (0, (inS l i y k).2.1, IntKind.i64.wrap ((inS l i y k).2.2 + 1)) := by rw [stV, if_neg (by rw [hk0]; simp), if_neg (fun q => by have := of_decide_eq_true q.1; rcases q.2 with a | a <;> omega), if_neg (by omega), hb]; rfl
          refine ⟨k + 1, ?_, by trivial, ⟨by omega, by rw [inS_next hx', e]⟩, by omega⟩
          rw [inS_next hx', e, w64 (n := (k : Int) + 1) (by omega)]
          rfl
        · have e := inS_end hy' hg h0 (k := k) (by omega)
          refine ⟨i + 1, ?_, by trivial, ⟨by omega, by rw [e]; exact hk0⟩, by omega⟩
          rw [e, w64 (n := (i : Int) + 1) (by omega)]
          rfl
    · repeat' ((conv => whnf); (first | refine csp (fun h => ?_) (fun h => ?_) | refine cll (hf _ _) (fun _ => ?_) | refine cll (logic_truth _) (fun _ => ?_) | (refine sda ?_ ?_; (focus (first | rfl | (simp; done)))) | refine sda ?_ ?_ | refine conk rfl ?_ | refine ldk rfl ?_ | refine mapk (fun x hx => ?_) | intro hl))
      all_goals conv => whnf
      try simp only [decide_eq_true_eq, decide_eq_false_iff_not, Bool.not_eq_true', Bool.not_eq_false', List.length_map, Int.not_lt, Int.not_le, Decidable.not_not, gt_iff_lt, ge_iff_le] at *
      have e : l.take i = l := List.take_of_length_le (by omega)
      rw [e] at h0 ⊢
      rw [votesS, if_neg (by rw [h0]; simp)]
end Go.Proofs.YtllceoncpgebpaaGreatDoor

/- Layer 19: kinds, by name. -/
set_option maxRecDepth 100000
set_option linter.all false
namespace Go.Proofs.YtllceoncpgebpaaGreatDoor
open Ab R
theorem find_1 (y n : Int) : Ret Tryz.prog F_logic_find_1 [.int .i64 y, .int .i64 n] (.bool (decide (n = 0))) := by
  refine r_logic_find_1 rfl fun hw => ?_
  clear hw
  repeat' ((conv => whnf); (first | refine csp (fun h => ?_) (fun h => ?_) | (refine sda ?_ ?_; (focus (first | rfl | (simp; done)))) | refine sda ?_ ?_ | refine conk rfl ?_ | refine ldk rfl ?_ | refine mapk (fun x hx => ?_) | intro hl))
  all_goals conv => whnf
theorem find_2 (y n : Int) : Ret Tryz.prog F_logic_find_2 [.int .i64 y, .int .i64 n] (.bool (decide (y > 0))) := by
  refine r_logic_find_2 rfl fun hw => ?_
  clear hw
  repeat' ((conv => whnf); (first | refine csp (fun h => ?_) (fun h => ?_) | (refine sda ?_ ?_; (focus (first | rfl | (simp; done)))) | refine sda ?_ ?_ | refine conk rfl ?_ | refine ldk rfl ?_ | refine mapk (fun x hx => ?_) | intro hl))
  all_goals conv => whnf
theorem find_3 (y n : Int) : Ret Tryz.prog F_logic_find_3 [.int .i64 y, .int .i64 n] (.bool (decide (y.tmod 2 = 1))) := by
  refine r_logic_find_3 rfl fun hw => ?_
  clear hw
  repeat' ((conv => whnf); (first | refine csp (fun h => ?_) (fun h => ?_) | (refine sda ?_ ?_; (focus (first | rfl | (simp; done)))) | refine sda ?_ ?_ | refine conk rfl ?_ | refine ldk rfl ?_ | refine mapk (fun x hx => ?_) | intro hl))
  all_goals conv => whnf
theorem is_0 (g : FuncId) : Ret Tryz.prog F_logic_is [.fn g [] []] (.fn F_logic_is_1 [] [.elem [.fn g [] []]]) := by
  refine r_logic_is rfl fun hw => ?_
  clear hw
  repeat' ((conv => whnf); (first | refine csp (fun h => ?_) (fun h => ?_) | (refine sda ?_ ?_; (focus (first | rfl | (simp; done)))) | refine sda ?_ ?_ | refine conk rfl ?_ | refine ldk rfl ?_ | refine mapk (fun x hx => ?_) | intro hl))
  all_goals conv => whnf
theorem is_k (g : FuncId) (k : Int) : Ret Tryz.prog F_logic_is [.fn g [] [.elem [.int .i64 k]]] (.fn F_logic_is_1 [] [.elem [.fn g [] [.elem [.int .i64 k]]]]) := by
  refine r_logic_is rfl fun hw => ?_
  clear hw
  repeat' ((conv => whnf); (first | refine csp (fun h => ?_) (fun h => ?_) | (refine sda ?_ ?_; (focus (first | rfl | (simp; done)))) | refine sda ?_ ?_ | refine conk rfl ?_ | refine ldk rfl ?_ | refine mapk (fun x hx => ?_) | intro hl))
  all_goals conv => whnf
theorem kind_r (k : Int) : Ret Tryz.prog F_logic_kind [.int .i64 k] (.fn F_logic_is_1 [] [.elem [.fn F_logic_kind_1 [] [.elem [.int .i64 k]]]]) := by
  refine r_logic_kind rfl fun hw => ?_
  clear hw
  repeat' ((conv => whnf); (first | refine csp (fun h => ?_) (fun h => ?_) | refine cll (is_k _ _) (fun _ => ?_) | (refine sda ?_ ?_; (focus (first | rfl | (simp; done)))) | refine sda ?_ ?_ | refine conk rfl ?_ | refine ldk rfl ?_ | refine mapk (fun x hx => ?_) | intro hl))
  all_goals conv => whnf
theorem kind_1 (v : GV) (k : Int) : Ret Tryz.prog F_logic_kind_1 [eV v, .elem [.int .i64 k]] (.bool (decide (v.k = k))) := by
  refine r_logic_kind_1 rfl fun hw => ?_
  clear hw
  repeat' ((conv => whnf); (first | refine csp (fun h => ?_) (fun h => ?_) | (refine sda ?_ ?_; (focus (first | rfl | (simp; done)))) | refine sda ?_ ?_ | refine conk rfl ?_ | refine ldk rfl ?_ | refine mapk (fun x hx => ?_) | intro hl))
  all_goals conv => whnf
theorem is1_0 (g : FuncId) (q : GV → Bool) (hq : ∀ v, Ret Tryz.prog g [eV v] (.bool (q v))) (a : Ar) : Ret Tryz.prog F_logic_is_1 [.row false [cA a], .elem [.fn g [] []]] (eV (truS (q (oneS a)))) := by
  refine r_logic_is_1 rfl fun hw => ?_
  clear hw
  repeat' ((conv => whnf); (first | refine csp (fun h => ?_) (fun h => ?_) | refine cll (maths_One _) (fun _ => ?_) | refine cll (hq _) (fun _ => ?_) | refine cll (logic_truth _) (fun _ => ?_) | (refine sda ?_ ?_; (focus (first | rfl | (simp; done)))) | refine sda ?_ ?_ | refine conk rfl ?_ | refine ldk rfl ?_ | refine mapk (fun x hx => ?_) | intro hl))
  all_goals conv => whnf
theorem is1_k (k : Int) (a : Ar) : Ret Tryz.prog F_logic_is_1 [.row false [cA a], .elem [.fn F_logic_kind_1 [] [.elem [.int .i64 k]]]] (eV (truS (decide ((oneS a).k = k)))) := by
  refine r_logic_is_1 rfl fun hw => ?_
  clear hw
  repeat' ((conv => whnf); (first | refine csp (fun h => ?_) (fun h => ?_) | refine cll (maths_One _) (fun _ => ?_) | refine cll (kind_1 _ _) (fun _ => ?_) | refine cll (logic_truth _) (fun _ => ?_) | (refine sda ?_ ?_; (focus (first | rfl | (simp; done)))) | refine sda ?_ ?_ | refine conk rfl ?_ | refine ldk rfl ?_ | refine mapk (fun x hx => ?_) | intro hl))
  all_goals conv => whnf
theorem kinds_1 (v : GV) : Ret Tryz.prog F_logic_kinds_1 [eV v] (.bool (!decide (v.k = 2))) := by
  refine r_logic_kinds_1 rfl fun hw => ?_
  clear hw
  repeat' ((conv => whnf); (first | refine csp (fun h => ?_) (fun h => ?_) | (refine sda ?_ ?_; (focus (first | rfl | (simp; done)))) | refine sda ?_ ?_ | refine conk rfl ?_ | refine ldk rfl ?_ | refine mapk (fun x hx => ?_) | intro hl))
  all_goals conv => whnf
theorem kinds_2 (v : GV) : Ret Tryz.prog F_logic_kinds_2 [eV v] (.bool (decide (v.k = 4) && (decide (v.n = 6) && decide (v.s = e0)))) := by
  refine r_logic_kinds_2 rfl fun hw => ?_
  clear hw
  repeat' ((conv => whnf); (first | refine csp (fun h => ?_) (fun h => ?_) | refine cll (value_Bad _) (fun _ => ?_) | (refine sda ?_ ?_; (focus (first | rfl | (simp; done)))) | refine sda ?_ ?_ | refine conk rfl ?_ | refine ldk rfl ?_ | refine mapk (fun x hx => ?_) | intro hl))
  all_goals conv => whnf
  all_goals simp [badS]
theorem kinds_3 (v : GV) : Ret Tryz.prog F_logic_kinds_3 [eV v] (.bool (decide (v.k = 4) && !decide (v.n = 6))) := by
  refine r_logic_kinds_3 rfl fun hw => ?_
  clear hw
  repeat' ((conv => whnf); (first | refine csp (fun h => ?_) (fun h => ?_) | (refine sda ?_ ?_; (focus (first | rfl | (simp; done)))) | refine sda ?_ ?_ | refine conk rfl ?_ | refine ldk rfl ?_ | refine mapk (fun x hx => ?_) | intro hl))
  all_goals conv => whnf
  all_goals simp_all
def typS (v : GV) : Int := if v.k = 2 then 2 else if v.k = 3 then 4 else if v.k = 4 then 16 else 1
theorem kinds_4 (a : Ar) : Ret Tryz.prog F_logic_kinds_4 [.row false [cA a]] (eV (whS (typS (oneS a)))) := by
  have hk : (oneS a).k = 0 ∨ (oneS a).k = 1 ∨ (oneS a).k = 2 ∨ (oneS a).k = 3 ∨ (oneS a).k = 4 := by
    have hg := oneS_good a
    unfold goodV at hg
    by_cases h0 : (oneS a).k = 0 <;> by_cases h1 : (oneS a).k = 1 <;> by_cases h2 : (oneS a).k = 2 <;> by_cases h3 : (oneS a).k = 3 <;> by_cases h4 : (oneS a).k = 4 <;> simp_all
  have h1 := maths_One a
  generalize oneS a = v at hk h1
  obtain ⟨k, n, s⟩ := v
  simp only at hk
  refine r_logic_kinds_4 rfl fun hw => ?_
  clear hw
  rcases hk with rfl | rfl | rfl | rfl | rfl
  all_goals repeat' ((conv => whnf); (first | refine csp (fun h => ?_) (fun h => ?_) | refine cll (h1) (fun _ => ?_) | refine cll (logic_whole _) (fun _ => ?_) | (refine sda ?_ ?_; (focus (first | rfl | (simp; done)))) | refine sda ?_ ?_ | refine conk rfl ?_ | refine ldk rfl ?_ | refine mapk (fun x hx => ?_) | intro hl))
  all_goals conv => whnf
  all_goals rfl
theorem kinds_5 (a : Ar) : Ret Tryz.prog F_logic_kinds_5 [.row false [cA a]] (eV (if (oneS a).k = 4 then whS (oneS a).n else badS 6)) := by
  refine r_logic_kinds_5 rfl fun hw => ?_
  clear hw
  repeat' ((conv => whnf); (first | refine csp (fun h => ?_) (fun h => ?_) | refine cll (maths_One _) (fun _ => ?_) | refine cll (logic_whole _) (fun _ => ?_) | refine cll (value_Bad _) (fun _ => ?_) | (refine sda ?_ ?_; (focus (first | rfl | (simp; done)))) | refine sda ?_ ?_ | refine conk rfl ?_ | refine ldk rfl ?_ | refine mapk (fun x hx => ?_) | intro hl))
  all_goals conv => whnf
  all_goals try simp only [decide_eq_true_eq, decide_eq_false_iff_not, Bool.not_eq_true', Bool.not_eq_false', List.length_map, Int.not_lt, Int.not_le, Decidable.not_not, gt_iff_lt, ge_iff_le] at *
  · rw [if_neg h]
  · rw [if_pos h]
theorem find_4 (a : Ar) : Ret Tryz.prog F_logic_find_4 [.row false [cA a]] (eV (if 0 < (tb (oneS a)).2 then badS (tb (oneS a)).2 else truS (!(tb (oneS a)).1))) := by
  refine r_logic_find_4 rfl fun hw => ?_
  clear hw
  repeat' ((conv => whnf); (first | refine csp (fun h => ?_) (fun h => ?_) | refine cll (maths_One _) (fun _ => ?_) | refine cll (ToBool_g _ (oneS_good a)) (fun _ => ?_) | refine cll (logic_truth _) (fun _ => ?_) | refine cll (value_Bad _) (fun _ => ?_) | (refine sda ?_ ?_; (focus (first | rfl | (simp; done)))) | refine sda ?_ ?_ | refine conk rfl ?_ | refine ldk rfl ?_ | refine mapk (fun x hx => ?_) | intro hl))
  all_goals conv => whnf
  all_goals try simp only [decide_eq_true_eq, decide_eq_false_iff_not, Bool.not_eq_true', Bool.not_eq_false', List.length_map, Int.not_lt, Int.not_le, Decidable.not_not, gt_iff_lt, ge_iff_le] at *
  · rw [if_pos h]
  · rw [if_neg (by omega)]
theorem constant_r (v : GV) : Ret Tryz.prog F_logic_constant [eV v] (.fn F_logic_constant_1 [] [.elem (cV v)]) := by
  refine r_logic_constant rfl fun hw => ?_
  clear hw
  repeat' ((conv => whnf); (first | refine csp (fun h => ?_) (fun h => ?_) | (refine sda ?_ ?_; (focus (first | rfl | (simp; done)))) | refine sda ?_ ?_ | refine conk rfl ?_ | refine ldk rfl ?_ | refine mapk (fun x hx => ?_) | intro hl))
  all_goals conv => whnf
theorem constant_1 (v : GV) (l : List (List V)) : Ret Tryz.prog F_logic_constant_1 [.row false l, .elem (cV v)] (eV v) := by
  refine r_logic_constant_1 rfl fun hw => ?_
  clear hw
  repeat' ((conv => whnf); (first | refine csp (fun h => ?_) (fun h => ?_) | (refine sda ?_ ?_; (focus (first | rfl | (simp; done)))) | refine sda ?_ ?_ | refine conk rfl ?_ | refine ldk rfl ?_ | refine mapk (fun x hx => ?_) | intro hl))
  all_goals conv => whnf
end Go.Proofs.YtllceoncpgebpaaGreatDoor

/- Layer 19: what is found by name. -/
set_option maxRecDepth 100000
set_option linter.all false
namespace Go.Proofs.YtllceoncpgebpaaGreatDoor
open Ab R
theorem votes_r (f : FuncId) : Ret Tryz.prog F_logic_votes [.fn f [] []] (.fn F_logic_votes_1 [] [.elem [.fn f [] []]]) := by
  refine r_logic_votes rfl fun hw => ?_
  clear hw
  repeat' ((conv => whnf); (first | refine csp (fun h => ?_) (fun h => ?_) | (refine sda ?_ ?_; (focus (first | rfl | (simp; done)))) | refine sda ?_ ?_ | refine conk rfl ?_ | refine ldk rfl ?_ | refine mapk (fun x hx => ?_) | intro hl))
  all_goals conv => whnf
theorem months_r (b : Bool) : Ret Tryz.prog F_logic_months [.bool b] (.fn F_logic_months_1 [] [.elem [.bool b]]) := by
  refine r_logic_months rfl fun hw => ?_
  clear hw
  repeat' ((conv => whnf); (first | refine csp (fun h => ?_) (fun h => ?_) | (refine sda ?_ ?_; (focus (first | rfl | (simp; done)))) | refine sda ?_ ?_ | refine conk rfl ?_ | refine ldk rfl ?_ | refine mapk (fun x hx => ?_) | intro hl))
  all_goals conv => whnf
theorem of_0 (g : FuncId) : Ret Tryz.prog F_logic_of [.fn g [] []] (.fn F_logic_of_1 [] [.elem [.fn g [] []]]) := by
  refine r_logic_of rfl fun hw => ?_
  clear hw
  repeat' ((conv => whnf); (first | refine csp (fun h => ?_) (fun h => ?_) | (refine sda ?_ ?_; (focus (first | rfl | (simp; done)))) | refine sda ?_ ?_ | refine conk rfl ?_ | refine ldk rfl ?_ | refine mapk (fun x hx => ?_) | intro hl))
  all_goals conv => whnf
theorem of_k (g : FuncId) (k : Int) : Ret Tryz.prog F_logic_of [.fn g [] [.elem [.int .i64 k]]] (.fn F_logic_of_1 [] [.elem [.fn g [] [.elem [.int .i64 k]]]]) := by
  refine r_logic_of rfl fun hw => ?_
  clear hw
  repeat' ((conv => whnf); (first | refine csp (fun h => ?_) (fun h => ?_) | (refine sda ?_ ?_; (focus (first | rfl | (simp; done)))) | refine sda ?_ ?_ | refine conk rfl ?_ | refine ldk rfl ?_ | refine mapk (fun x hx => ?_) | intro hl))
  all_goals conv => whnf
theorem part_r (k : Int) : Ret Tryz.prog F_logic_part [.int .i64 k] (.fn F_logic_of_1 [] [.elem [.fn F_logic_part_1 [] [.elem [.int .i64 k]]]]) := by
  refine r_logic_part rfl fun hw => ?_
  clear hw
  repeat' ((conv => whnf); (first | refine csp (fun h => ?_) (fun h => ?_) | refine cll (of_k _ _) (fun _ => ?_) | (refine sda ?_ ?_; (focus (first | rfl | (simp; done)))) | refine sda ?_ ?_ | refine conk rfl ?_ | refine ldk rfl ?_ | refine mapk (fun x hx => ?_) | intro hl))
  all_goals conv => whnf
theorem kinds_ISBLANK : Ret Tryz.prog F_logic_kinds [.str ⟨#[73, 83, 66, 76, 65, 78, 75]⟩] (.fn F_logic_is_1 [] [.elem [.fn F_logic_kind_1 [] [.elem [.int .i64 0]]]]) := by
  refine r_logic_kinds rfl fun hw => ?_
  clear hw
  repeat' ((conv => whnf); (first | refine csp (fun h => ?_) (fun h => ?_) | refine cll (kind_r _) (fun _ => ?_) | refine cll (is_0 _) (fun _ => ?_) | (refine sda ?_ ?_; (focus (first | rfl | (simp; done)))) | refine sda ?_ ?_ | refine conk rfl ?_ | refine ldk rfl ?_ | refine mapk (fun x hx => ?_) | intro hl))
  all_goals conv => whnf
theorem kinds_ISNUMBER : Ret Tryz.prog F_logic_kinds [.str ⟨#[73, 83, 78, 85, 77, 66, 69, 82]⟩] (.fn F_logic_is_1 [] [.elem [.fn F_logic_kind_1 [] [.elem [.int .i64 1]]]]) := by
  refine r_logic_kinds rfl fun hw => ?_
  clear hw
  repeat' ((conv => whnf); (first | refine csp (fun h => ?_) (fun h => ?_) | refine cll (kind_r _) (fun _ => ?_) | refine cll (is_0 _) (fun _ => ?_) | (refine sda ?_ ?_; (focus (first | rfl | (simp; done)))) | refine sda ?_ ?_ | refine conk rfl ?_ | refine ldk rfl ?_ | refine mapk (fun x hx => ?_) | intro hl))
  all_goals conv => whnf
theorem kinds_ISTEXT : Ret Tryz.prog F_logic_kinds [.str ⟨#[73, 83, 84, 69, 88, 84]⟩] (.fn F_logic_is_1 [] [.elem [.fn F_logic_kind_1 [] [.elem [.int .i64 2]]]]) := by
  refine r_logic_kinds rfl fun hw => ?_
  clear hw
  repeat' ((conv => whnf); (first | refine csp (fun h => ?_) (fun h => ?_) | refine cll (kind_r _) (fun _ => ?_) | refine cll (is_0 _) (fun _ => ?_) | (refine sda ?_ ?_; (focus (first | rfl | (simp; done)))) | refine sda ?_ ?_ | refine conk rfl ?_ | refine ldk rfl ?_ | refine mapk (fun x hx => ?_) | intro hl))
  all_goals conv => whnf
theorem kinds_ISLOGICAL : Ret Tryz.prog F_logic_kinds [.str ⟨#[73, 83, 76, 79, 71, 73, 67, 65, 76]⟩] (.fn F_logic_is_1 [] [.elem [.fn F_logic_kind_1 [] [.elem [.int .i64 3]]]]) := by
  refine r_logic_kinds rfl fun hw => ?_
  clear hw
  repeat' ((conv => whnf); (first | refine csp (fun h => ?_) (fun h => ?_) | refine cll (kind_r _) (fun _ => ?_) | refine cll (is_0 _) (fun _ => ?_) | (refine sda ?_ ?_; (focus (first | rfl | (simp; done)))) | refine sda ?_ ?_ | refine conk rfl ?_ | refine ldk rfl ?_ | refine mapk (fun x hx => ?_) | intro hl))
  all_goals conv => whnf
theorem kinds_ISERROR : Ret Tryz.prog F_logic_kinds [.str ⟨#[73, 83, 69, 82, 82, 79, 82]⟩] (.fn F_logic_is_1 [] [.elem [.fn F_logic_kind_1 [] [.elem [.int .i64 4]]]]) := by
  refine r_logic_kinds rfl fun hw => ?_
  clear hw
  repeat' ((conv => whnf); (first | refine csp (fun h => ?_) (fun h => ?_) | refine cll (kind_r _) (fun _ => ?_) | refine cll (is_0 _) (fun _ => ?_) | (refine sda ?_ ?_; (focus (first | rfl | (simp; done)))) | refine sda ?_ ?_ | refine conk rfl ?_ | refine ldk rfl ?_ | refine mapk (fun x hx => ?_) | intro hl))
  all_goals conv => whnf
theorem kinds_ISNONTEXT : Ret Tryz.prog F_logic_kinds [.str ⟨#[73, 83, 78, 79, 78, 84, 69, 88, 84]⟩] (.fn F_logic_is_1 [] [.elem [.fn F_logic_kinds_1 [] []]]) := by
  refine r_logic_kinds rfl fun hw => ?_
  clear hw
  repeat' ((conv => whnf); (first | refine csp (fun h => ?_) (fun h => ?_) | refine cll (kind_r _) (fun _ => ?_) | refine cll (is_0 _) (fun _ => ?_) | (refine sda ?_ ?_; (focus (first | rfl | (simp; done)))) | refine sda ?_ ?_ | refine conk rfl ?_ | refine ldk rfl ?_ | refine mapk (fun x hx => ?_) | intro hl))
  all_goals conv => whnf
theorem kinds_ISNA : Ret Tryz.prog F_logic_kinds [.str ⟨#[73, 83, 78, 65]⟩] (.fn F_logic_is_1 [] [.elem [.fn F_logic_kinds_2 [] []]]) := by
  refine r_logic_kinds rfl fun hw => ?_
  clear hw
  repeat' ((conv => whnf); (first | refine csp (fun h => ?_) (fun h => ?_) | refine cll (kind_r _) (fun _ => ?_) | refine cll (is_0 _) (fun _ => ?_) | (refine sda ?_ ?_; (focus (first | rfl | (simp; done)))) | refine sda ?_ ?_ | refine conk rfl ?_ | refine ldk rfl ?_ | refine mapk (fun x hx => ?_) | intro hl))
  all_goals conv => whnf
theorem kinds_ISERR : Ret Tryz.prog F_logic_kinds [.str ⟨#[73, 83, 69, 82, 82]⟩] (.fn F_logic_is_1 [] [.elem [.fn F_logic_kinds_3 [] []]]) := by
  refine r_logic_kinds rfl fun hw => ?_
  clear hw
  repeat' ((conv => whnf); (first | refine csp (fun h => ?_) (fun h => ?_) | refine cll (kind_r _) (fun _ => ?_) | refine cll (is_0 _) (fun _ => ?_) | (refine sda ?_ ?_; (focus (first | rfl | (simp; done)))) | refine sda ?_ ?_ | refine conk rfl ?_ | refine ldk rfl ?_ | refine mapk (fun x hx => ?_) | intro hl))
  all_goals conv => whnf
theorem kinds_TYPE : Ret Tryz.prog F_logic_kinds [.str ⟨#[84, 89, 80, 69]⟩] (.fn F_logic_kinds_4 [] []) := by
  refine r_logic_kinds rfl fun hw => ?_
  clear hw
  repeat' ((conv => whnf); (first | refine csp (fun h => ?_) (fun h => ?_) | refine cll (kind_r _) (fun _ => ?_) | refine cll (is_0 _) (fun _ => ?_) | (refine sda ?_ ?_; (focus (first | rfl | (simp; done)))) | refine sda ?_ ?_ | refine conk rfl ?_ | refine ldk rfl ?_ | refine mapk (fun x hx => ?_) | intro hl))
  all_goals conv => whnf
theorem kinds_ERRORTYPE : Ret Tryz.prog F_logic_kinds [.str ⟨#[69, 82, 82, 79, 82, 84, 89, 80, 69]⟩] (.fn F_logic_kinds_5 [] []) := by
  refine r_logic_kinds rfl fun hw => ?_
  clear hw
  repeat' ((conv => whnf); (first | refine csp (fun h => ?_) (fun h => ?_) | refine cll (kind_r _) (fun _ => ?_) | refine cll (is_0 _) (fun _ => ?_) | (refine sda ?_ ?_; (focus (first | rfl | (simp; done)))) | refine sda ?_ ?_ | refine conk rfl ?_ | refine ldk rfl ?_ | refine mapk (fun x hx => ?_) | intro hl))
  all_goals conv => whnf
theorem kinds_no_YEAR : Ret Tryz.prog F_logic_kinds [.str ⟨#[89, 69, 65, 82]⟩] .nilFn := by
  refine r_logic_kinds rfl fun hw => ?_
  clear hw
  repeat' ((conv => whnf); (first | refine csp (fun h => ?_) (fun h => ?_) | (refine sda ?_ ?_; (focus (first | rfl | (simp; done)))) | refine sda ?_ ?_ | refine conk rfl ?_ | refine ldk rfl ?_ | refine mapk (fun x hx => ?_) | intro hl))
  all_goals conv => whnf
theorem days_YEAR : Ret Tryz.prog F_logic_days [.str ⟨#[89, 69, 65, 82]⟩] (.fn F_logic_of_1 [] [.elem [.fn F_logic_part_1 [] [.elem [.int .i64 0]]]]) := by
  refine r_logic_days rfl fun hw => ?_
  clear hw
  repeat' ((conv => whnf); (first | refine csp (fun h => ?_) (fun h => ?_) | refine cll (part_r _) (fun _ => ?_) | refine cll (of_0 _) (fun _ => ?_) | (refine sda ?_ ?_; (focus (first | rfl | (simp; done)))) | refine sda ?_ ?_ | refine conk rfl ?_ | refine ldk rfl ?_ | refine mapk (fun x hx => ?_) | intro hl))
  all_goals conv => whnf
theorem kinds_no_MONTH : Ret Tryz.prog F_logic_kinds [.str ⟨#[77, 79, 78, 84, 72]⟩] .nilFn := by
  refine r_logic_kinds rfl fun hw => ?_
  clear hw
  repeat' ((conv => whnf); (first | refine csp (fun h => ?_) (fun h => ?_) | (refine sda ?_ ?_; (focus (first | rfl | (simp; done)))) | refine sda ?_ ?_ | refine conk rfl ?_ | refine ldk rfl ?_ | refine mapk (fun x hx => ?_) | intro hl))
  all_goals conv => whnf
theorem days_MONTH : Ret Tryz.prog F_logic_days [.str ⟨#[77, 79, 78, 84, 72]⟩] (.fn F_logic_of_1 [] [.elem [.fn F_logic_part_1 [] [.elem [.int .i64 1]]]]) := by
  refine r_logic_days rfl fun hw => ?_
  clear hw
  repeat' ((conv => whnf); (first | refine csp (fun h => ?_) (fun h => ?_) | refine cll (part_r _) (fun _ => ?_) | refine cll (of_0 _) (fun _ => ?_) | (refine sda ?_ ?_; (focus (first | rfl | (simp; done)))) | refine sda ?_ ?_ | refine conk rfl ?_ | refine ldk rfl ?_ | refine mapk (fun x hx => ?_) | intro hl))
  all_goals conv => whnf
theorem kinds_no_DAY : Ret Tryz.prog F_logic_kinds [.str ⟨#[68, 65, 89]⟩] .nilFn := by
  refine r_logic_kinds rfl fun hw => ?_
  clear hw
  repeat' ((conv => whnf); (first | refine csp (fun h => ?_) (fun h => ?_) | (refine sda ?_ ?_; (focus (first | rfl | (simp; done)))) | refine sda ?_ ?_ | refine conk rfl ?_ | refine ldk rfl ?_ | refine mapk (fun x hx => ?_) | intro hl))
  all_goals conv => whnf
theorem days_DAY : Ret Tryz.prog F_logic_days [.str ⟨#[68, 65, 89]⟩] (.fn F_logic_of_1 [] [.elem [.fn F_logic_part_1 [] [.elem [.int .i64 2]]]]) := by
  refine r_logic_days rfl fun hw => ?_
  clear hw
  repeat' ((conv => whnf); (first | refine csp (fun h => ?_) (fun h => ?_) | refine cll (part_r _) (fun _ => ?_) | refine cll (of_0 _) (fun _ => ?_) | (refine sda ?_ ?_; (focus (first | rfl | (simp; done)))) | refine sda ?_ ?_ | refine conk rfl ?_ | refine ldk rfl ?_ | refine mapk (fun x hx => ?_) | intro hl))
  all_goals conv => whnf
theorem kinds_no_WEEKDAY : Ret Tryz.prog F_logic_kinds [.str ⟨#[87, 69, 69, 75, 68, 65, 89]⟩] .nilFn := by
  refine r_logic_kinds rfl fun hw => ?_
  clear hw
  repeat' ((conv => whnf); (first | refine csp (fun h => ?_) (fun h => ?_) | (refine sda ?_ ?_; (focus (first | rfl | (simp; done)))) | refine sda ?_ ?_ | refine conk rfl ?_ | refine ldk rfl ?_ | refine mapk (fun x hx => ?_) | intro hl))
  all_goals conv => whnf
theorem days_WEEKDAY : Ret Tryz.prog F_logic_days [.str ⟨#[87, 69, 69, 75, 68, 65, 89]⟩] (.fn F_logic_of_1 [] [.elem [.fn F_logic_days_1 [] []]]) := by
  refine r_logic_days rfl fun hw => ?_
  clear hw
  repeat' ((conv => whnf); (first | refine csp (fun h => ?_) (fun h => ?_) | refine cll (part_r _) (fun _ => ?_) | refine cll (of_0 _) (fun _ => ?_) | (refine sda ?_ ?_; (focus (first | rfl | (simp; done)))) | refine sda ?_ ?_ | refine conk rfl ?_ | refine ldk rfl ?_ | refine mapk (fun x hx => ?_) | intro hl))
  all_goals conv => whnf
theorem kinds_no_WEEKNUM : Ret Tryz.prog F_logic_kinds [.str ⟨#[87, 69, 69, 75, 78, 85, 77]⟩] .nilFn := by
  refine r_logic_kinds rfl fun hw => ?_
  clear hw
  repeat' ((conv => whnf); (first | refine csp (fun h => ?_) (fun h => ?_) | (refine sda ?_ ?_; (focus (first | rfl | (simp; done)))) | refine sda ?_ ?_ | refine conk rfl ?_ | refine ldk rfl ?_ | refine mapk (fun x hx => ?_) | intro hl))
  all_goals conv => whnf
theorem days_WEEKNUM : Ret Tryz.prog F_logic_days [.str ⟨#[87, 69, 69, 75, 78, 85, 77]⟩] (.fn F_logic_of_1 [] [.elem [.fn F_logic_days_2 [] []]]) := by
  refine r_logic_days rfl fun hw => ?_
  clear hw
  repeat' ((conv => whnf); (first | refine csp (fun h => ?_) (fun h => ?_) | refine cll (part_r _) (fun _ => ?_) | refine cll (of_0 _) (fun _ => ?_) | (refine sda ?_ ?_; (focus (first | rfl | (simp; done)))) | refine sda ?_ ?_ | refine conk rfl ?_ | refine ldk rfl ?_ | refine mapk (fun x hx => ?_) | intro hl))
  all_goals conv => whnf
theorem kinds_no_DATETEXT : Ret Tryz.prog F_logic_kinds [.str ⟨#[68, 65, 84, 69, 84, 69, 88, 84]⟩] .nilFn := by
  refine r_logic_kinds rfl fun hw => ?_
  clear hw
  repeat' ((conv => whnf); (first | refine csp (fun h => ?_) (fun h => ?_) | (refine sda ?_ ?_; (focus (first | rfl | (simp; done)))) | refine sda ?_ ?_ | refine conk rfl ?_ | refine ldk rfl ?_ | refine mapk (fun x hx => ?_) | intro hl))
  all_goals conv => whnf
theorem days_DATETEXT : Ret Tryz.prog F_logic_days [.str ⟨#[68, 65, 84, 69, 84, 69, 88, 84]⟩] (.fn F_logic_of_1 [] [.elem [.fn F_logic_days_3 [] []]]) := by
  refine r_logic_days rfl fun hw => ?_
  clear hw
  repeat' ((conv => whnf); (first | refine csp (fun h => ?_) (fun h => ?_) | refine cll (part_r _) (fun _ => ?_) | refine cll (of_0 _) (fun _ => ?_) | (refine sda ?_ ?_; (focus (first | rfl | (simp; done)))) | refine sda ?_ ?_ | refine conk rfl ?_ | refine ldk rfl ?_ | refine mapk (fun x hx => ?_) | intro hl))
  all_goals conv => whnf
theorem fnd_AND : Ret Tryz.prog F_logic_find [.str ⟨#[65, 78, 68]⟩] (.tup [.fn F_logic_votes_1 [] [.elem [.fn F_logic_find_1 [] []]], .int .i64 (-1)]) := by
  refine r_logic_find rfl fun hw => ?_
  clear hw
  repeat' ((conv => whnf); (first | refine csp (fun h => ?_) (fun h => ?_) | refine cll (votes_r _) (fun _ => ?_) | refine cll (months_r _) (fun _ => ?_) | refine cll (constant_r _) (fun _ => ?_) | refine cll (logic_truth _) (fun _ => ?_) | refine cll (value_Bad _) (fun _ => ?_) | (refine sda ?_ ?_; (focus (first | rfl | (simp; done)))) | refine sda ?_ ?_ | refine conk rfl ?_ | refine ldk rfl ?_ | refine mapk (fun x hx => ?_) | intro hl))
  all_goals conv => whnf
theorem fnd_OR : Ret Tryz.prog F_logic_find [.str ⟨#[79, 82]⟩] (.tup [.fn F_logic_votes_1 [] [.elem [.fn F_logic_find_2 [] []]], .int .i64 (-1)]) := by
  refine r_logic_find rfl fun hw => ?_
  clear hw
  repeat' ((conv => whnf); (first | refine csp (fun h => ?_) (fun h => ?_) | refine cll (votes_r _) (fun _ => ?_) | refine cll (months_r _) (fun _ => ?_) | refine cll (constant_r _) (fun _ => ?_) | refine cll (logic_truth _) (fun _ => ?_) | refine cll (value_Bad _) (fun _ => ?_) | (refine sda ?_ ?_; (focus (first | rfl | (simp; done)))) | refine sda ?_ ?_ | refine conk rfl ?_ | refine ldk rfl ?_ | refine mapk (fun x hx => ?_) | intro hl))
  all_goals conv => whnf
theorem fnd_XOR : Ret Tryz.prog F_logic_find [.str ⟨#[88, 79, 82]⟩] (.tup [.fn F_logic_votes_1 [] [.elem [.fn F_logic_find_3 [] []]], .int .i64 (-1)]) := by
  refine r_logic_find rfl fun hw => ?_
  clear hw
  repeat' ((conv => whnf); (first | refine csp (fun h => ?_) (fun h => ?_) | refine cll (votes_r _) (fun _ => ?_) | refine cll (months_r _) (fun _ => ?_) | refine cll (constant_r _) (fun _ => ?_) | refine cll (logic_truth _) (fun _ => ?_) | refine cll (value_Bad _) (fun _ => ?_) | (refine sda ?_ ?_; (focus (first | rfl | (simp; done)))) | refine sda ?_ ?_ | refine conk rfl ?_ | refine ldk rfl ?_ | refine mapk (fun x hx => ?_) | intro hl))
  all_goals conv => whnf
theorem fnd_NOT : Ret Tryz.prog F_logic_find [.str ⟨#[78, 79, 84]⟩] (.tup [.fn F_logic_find_4 [] [], .int .i64 (1)]) := by
  refine r_logic_find rfl fun hw => ?_
  clear hw
  repeat' ((conv => whnf); (first | refine csp (fun h => ?_) (fun h => ?_) | refine cll (votes_r _) (fun _ => ?_) | refine cll (months_r _) (fun _ => ?_) | refine cll (constant_r _) (fun _ => ?_) | refine cll (logic_truth _) (fun _ => ?_) | refine cll (value_Bad _) (fun _ => ?_) | (refine sda ?_ ?_; (focus (first | rfl | (simp; done)))) | refine sda ?_ ?_ | refine conk rfl ?_ | refine ldk rfl ?_ | refine mapk (fun x hx => ?_) | intro hl))
  all_goals conv => whnf
theorem fnd_TRUE : Ret Tryz.prog F_logic_find [.str ⟨#[84, 82, 85, 69]⟩] (.tup [.fn F_logic_constant_1 [] [.elem (cV (truS true))], .int .i64 (0)]) := by
  refine r_logic_find rfl fun hw => ?_
  clear hw
  repeat' ((conv => whnf); (first | refine csp (fun h => ?_) (fun h => ?_) | refine cll (votes_r _) (fun _ => ?_) | refine cll (months_r _) (fun _ => ?_) | refine cll (constant_r _) (fun _ => ?_) | refine cll (logic_truth _) (fun _ => ?_) | refine cll (value_Bad _) (fun _ => ?_) | (refine sda ?_ ?_; (focus (first | rfl | (simp; done)))) | refine sda ?_ ?_ | refine conk rfl ?_ | refine ldk rfl ?_ | refine mapk (fun x hx => ?_) | intro hl))
  all_goals conv => whnf
theorem fnd_FALSE : Ret Tryz.prog F_logic_find [.str ⟨#[70, 65, 76, 83, 69]⟩] (.tup [.fn F_logic_constant_1 [] [.elem (cV (truS false))], .int .i64 (0)]) := by
  refine r_logic_find rfl fun hw => ?_
  clear hw
  repeat' ((conv => whnf); (first | refine csp (fun h => ?_) (fun h => ?_) | refine cll (votes_r _) (fun _ => ?_) | refine cll (months_r _) (fun _ => ?_) | refine cll (constant_r _) (fun _ => ?_) | refine cll (logic_truth _) (fun _ => ?_) | refine cll (value_Bad _) (fun _ => ?_) | (refine sda ?_ ?_; (focus (first | rfl | (simp; done)))) | refine sda ?_ ?_ | refine conk rfl ?_ | refine ldk rfl ?_ | refine mapk (fun x hx => ?_) | intro hl))
  all_goals conv => whnf
theorem fnd_NA : Ret Tryz.prog F_logic_find [.str ⟨#[78, 65]⟩] (.tup [.fn F_logic_constant_1 [] [.elem (cV (badS 6))], .int .i64 (0)]) := by
  refine r_logic_find rfl fun hw => ?_
  clear hw
  repeat' ((conv => whnf); (first | refine csp (fun h => ?_) (fun h => ?_) | refine cll (votes_r _) (fun _ => ?_) | refine cll (months_r _) (fun _ => ?_) | refine cll (constant_r _) (fun _ => ?_) | refine cll (logic_truth _) (fun _ => ?_) | refine cll (value_Bad _) (fun _ => ?_) | (refine sda ?_ ?_; (focus (first | rfl | (simp; done)))) | refine sda ?_ ?_ | refine conk rfl ?_ | refine ldk rfl ?_ | refine mapk (fun x hx => ?_) | intro hl))
  all_goals conv => whnf
theorem fnd_DATE : Ret Tryz.prog F_logic_find [.str ⟨#[68, 65, 84, 69]⟩] (.tup [.fn F_logic_find_5 [] [], .int .i64 (3)]) := by
  refine r_logic_find rfl fun hw => ?_
  clear hw
  repeat' ((conv => whnf); (first | refine csp (fun h => ?_) (fun h => ?_) | refine cll (votes_r _) (fun _ => ?_) | refine cll (months_r _) (fun _ => ?_) | refine cll (constant_r _) (fun _ => ?_) | refine cll (logic_truth _) (fun _ => ?_) | refine cll (value_Bad _) (fun _ => ?_) | (refine sda ?_ ?_; (focus (first | rfl | (simp; done)))) | refine sda ?_ ?_ | refine conk rfl ?_ | refine ldk rfl ?_ | refine mapk (fun x hx => ?_) | intro hl))
  all_goals conv => whnf
theorem fnd_EDATE : Ret Tryz.prog F_logic_find [.str ⟨#[69, 68, 65, 84, 69]⟩] (.tup [.fn F_logic_months_1 [] [.elem [.bool false]], .int .i64 (2)]) := by
  refine r_logic_find rfl fun hw => ?_
  clear hw
  repeat' ((conv => whnf); (first | refine csp (fun h => ?_) (fun h => ?_) | refine cll (votes_r _) (fun _ => ?_) | refine cll (months_r _) (fun _ => ?_) | refine cll (constant_r _) (fun _ => ?_) | refine cll (logic_truth _) (fun _ => ?_) | refine cll (value_Bad _) (fun _ => ?_) | (refine sda ?_ ?_; (focus (first | rfl | (simp; done)))) | refine sda ?_ ?_ | refine conk rfl ?_ | refine ldk rfl ?_ | refine mapk (fun x hx => ?_) | intro hl))
  all_goals conv => whnf
theorem fnd_EOMONTH : Ret Tryz.prog F_logic_find [.str ⟨#[69, 79, 77, 79, 78, 84, 72]⟩] (.tup [.fn F_logic_months_1 [] [.elem [.bool true]], .int .i64 (2)]) := by
  refine r_logic_find rfl fun hw => ?_
  clear hw
  repeat' ((conv => whnf); (first | refine csp (fun h => ?_) (fun h => ?_) | refine cll (votes_r _) (fun _ => ?_) | refine cll (months_r _) (fun _ => ?_) | refine cll (constant_r _) (fun _ => ?_) | refine cll (logic_truth _) (fun _ => ?_) | refine cll (value_Bad _) (fun _ => ?_) | (refine sda ?_ ?_; (focus (first | rfl | (simp; done)))) | refine sda ?_ ?_ | refine conk rfl ?_ | refine ldk rfl ?_ | refine mapk (fun x hx => ?_) | intro hl))
  all_goals conv => whnf
theorem fnd_DAYS : Ret Tryz.prog F_logic_find [.str ⟨#[68, 65, 89, 83]⟩] (.tup [.fn F_logic_find_6 [] [], .int .i64 (2)]) := by
  refine r_logic_find rfl fun hw => ?_
  clear hw
  repeat' ((conv => whnf); (first | refine csp (fun h => ?_) (fun h => ?_) | refine cll (votes_r _) (fun _ => ?_) | refine cll (months_r _) (fun _ => ?_) | refine cll (constant_r _) (fun _ => ?_) | refine cll (logic_truth _) (fun _ => ?_) | refine cll (value_Bad _) (fun _ => ?_) | (refine sda ?_ ?_; (focus (first | rfl | (simp; done)))) | refine sda ?_ ?_ | refine conk rfl ?_ | refine ldk rfl ?_ | refine mapk (fun x hx => ?_) | intro hl))
  all_goals conv => whnf
theorem fnd_DATEVALUE : Ret Tryz.prog F_logic_find [.str ⟨#[68, 65, 84, 69, 86, 65, 76, 85, 69]⟩] (.tup [.fn F_logic_find_7 [] [], .int .i64 (1)]) := by
  refine r_logic_find rfl fun hw => ?_
  clear hw
  repeat' ((conv => whnf); (first | refine csp (fun h => ?_) (fun h => ?_) | refine cll (votes_r _) (fun _ => ?_) | refine cll (months_r _) (fun _ => ?_) | refine cll (constant_r _) (fun _ => ?_) | refine cll (logic_truth _) (fun _ => ?_) | refine cll (value_Bad _) (fun _ => ?_) | (refine sda ?_ ?_; (focus (first | rfl | (simp; done)))) | refine sda ?_ ?_ | refine conk rfl ?_ | refine ldk rfl ?_ | refine mapk (fun x hx => ?_) | intro hl))
  all_goals conv => whnf
theorem fnd_ISBLANK : Ret Tryz.prog F_logic_find [.str ⟨#[73, 83, 66, 76, 65, 78, 75]⟩] (.tup [.fn F_logic_is_1 [] [.elem [.fn F_logic_kind_1 [] [.elem [.int .i64 0]]]], .int .i64 (1)]) := by
  refine r_logic_find rfl fun hw => ?_
  clear hw
  repeat' ((conv => whnf); (first | refine csp (fun h => ?_) (fun h => ?_) | refine cll (kinds_ISBLANK) (fun _ => ?_) | (refine sda ?_ ?_; (focus (first | rfl | (simp; done)))) | refine sda ?_ ?_ | refine conk rfl ?_ | refine ldk rfl ?_ | refine mapk (fun x hx => ?_) | intro hl))
  all_goals conv => whnf
theorem fnd_ISNUMBER : Ret Tryz.prog F_logic_find [.str ⟨#[73, 83, 78, 85, 77, 66, 69, 82]⟩] (.tup [.fn F_logic_is_1 [] [.elem [.fn F_logic_kind_1 [] [.elem [.int .i64 1]]]], .int .i64 (1)]) := by
  refine r_logic_find rfl fun hw => ?_
  clear hw
  repeat' ((conv => whnf); (first | refine csp (fun h => ?_) (fun h => ?_) | refine cll (kinds_ISNUMBER) (fun _ => ?_) | (refine sda ?_ ?_; (focus (first | rfl | (simp; done)))) | refine sda ?_ ?_ | refine conk rfl ?_ | refine ldk rfl ?_ | refine mapk (fun x hx => ?_) | intro hl))
  all_goals conv => whnf
theorem fnd_ISTEXT : Ret Tryz.prog F_logic_find [.str ⟨#[73, 83, 84, 69, 88, 84]⟩] (.tup [.fn F_logic_is_1 [] [.elem [.fn F_logic_kind_1 [] [.elem [.int .i64 2]]]], .int .i64 (1)]) := by
  refine r_logic_find rfl fun hw => ?_
  clear hw
  repeat' ((conv => whnf); (first | refine csp (fun h => ?_) (fun h => ?_) | refine cll (kinds_ISTEXT) (fun _ => ?_) | (refine sda ?_ ?_; (focus (first | rfl | (simp; done)))) | refine sda ?_ ?_ | refine conk rfl ?_ | refine ldk rfl ?_ | refine mapk (fun x hx => ?_) | intro hl))
  all_goals conv => whnf
theorem fnd_ISLOGICAL : Ret Tryz.prog F_logic_find [.str ⟨#[73, 83, 76, 79, 71, 73, 67, 65, 76]⟩] (.tup [.fn F_logic_is_1 [] [.elem [.fn F_logic_kind_1 [] [.elem [.int .i64 3]]]], .int .i64 (1)]) := by
  refine r_logic_find rfl fun hw => ?_
  clear hw
  repeat' ((conv => whnf); (first | refine csp (fun h => ?_) (fun h => ?_) | refine cll (kinds_ISLOGICAL) (fun _ => ?_) | (refine sda ?_ ?_; (focus (first | rfl | (simp; done)))) | refine sda ?_ ?_ | refine conk rfl ?_ | refine ldk rfl ?_ | refine mapk (fun x hx => ?_) | intro hl))
  all_goals conv => whnf
theorem fnd_ISERROR : Ret Tryz.prog F_logic_find [.str ⟨#[73, 83, 69, 82, 82, 79, 82]⟩] (.tup [.fn F_logic_is_1 [] [.elem [.fn F_logic_kind_1 [] [.elem [.int .i64 4]]]], .int .i64 (1)]) := by
  refine r_logic_find rfl fun hw => ?_
  clear hw
  repeat' ((conv => whnf); (first | refine csp (fun h => ?_) (fun h => ?_) | refine cll (kinds_ISERROR) (fun _ => ?_) | (refine sda ?_ ?_; (focus (first | rfl | (simp; done)))) | refine sda ?_ ?_ | refine conk rfl ?_ | refine ldk rfl ?_ | refine mapk (fun x hx => ?_) | intro hl))
  all_goals conv => whnf
theorem fnd_ISNONTEXT : Ret Tryz.prog F_logic_find [.str ⟨#[73, 83, 78, 79, 78, 84, 69, 88, 84]⟩] (.tup [.fn F_logic_is_1 [] [.elem [.fn F_logic_kinds_1 [] []]], .int .i64 (1)]) := by
  refine r_logic_find rfl fun hw => ?_
  clear hw
  repeat' ((conv => whnf); (first | refine csp (fun h => ?_) (fun h => ?_) | refine cll (kinds_ISNONTEXT) (fun _ => ?_) | (refine sda ?_ ?_; (focus (first | rfl | (simp; done)))) | refine sda ?_ ?_ | refine conk rfl ?_ | refine ldk rfl ?_ | refine mapk (fun x hx => ?_) | intro hl))
  all_goals conv => whnf
theorem fnd_ISNA : Ret Tryz.prog F_logic_find [.str ⟨#[73, 83, 78, 65]⟩] (.tup [.fn F_logic_is_1 [] [.elem [.fn F_logic_kinds_2 [] []]], .int .i64 (1)]) := by
  refine r_logic_find rfl fun hw => ?_
  clear hw
  repeat' ((conv => whnf); (first | refine csp (fun h => ?_) (fun h => ?_) | refine cll (kinds_ISNA) (fun _ => ?_) | (refine sda ?_ ?_; (focus (first | rfl | (simp; done)))) | refine sda ?_ ?_ | refine conk rfl ?_ | refine ldk rfl ?_ | refine mapk (fun x hx => ?_) | intro hl))
  all_goals conv => whnf
theorem fnd_ISERR : Ret Tryz.prog F_logic_find [.str ⟨#[73, 83, 69, 82, 82]⟩] (.tup [.fn F_logic_is_1 [] [.elem [.fn F_logic_kinds_3 [] []]], .int .i64 (1)]) := by
  refine r_logic_find rfl fun hw => ?_
  clear hw
  repeat' ((conv => whnf); (first | refine csp (fun h => ?_) (fun h => ?_) | refine cll (kinds_ISERR) (fun _ => ?_) | (refine sda ?_ ?_; (focus (first | rfl | (simp; done)))) | refine sda ?_ ?_ | refine conk rfl ?_ | refine ldk rfl ?_ | refine mapk (fun x hx => ?_) | intro hl))
  all_goals conv => whnf
theorem fnd_TYPE : Ret Tryz.prog F_logic_find [.str ⟨#[84, 89, 80, 69]⟩] (.tup [.fn F_logic_kinds_4 [] [], .int .i64 (1)]) := by
  refine r_logic_find rfl fun hw => ?_
  clear hw
  repeat' ((conv => whnf); (first | refine csp (fun h => ?_) (fun h => ?_) | refine cll (kinds_TYPE) (fun _ => ?_) | (refine sda ?_ ?_; (focus (first | rfl | (simp; done)))) | refine sda ?_ ?_ | refine conk rfl ?_ | refine ldk rfl ?_ | refine mapk (fun x hx => ?_) | intro hl))
  all_goals conv => whnf
theorem fnd_ERRORTYPE : Ret Tryz.prog F_logic_find [.str ⟨#[69, 82, 82, 79, 82, 84, 89, 80, 69]⟩] (.tup [.fn F_logic_kinds_5 [] [], .int .i64 (1)]) := by
  refine r_logic_find rfl fun hw => ?_
  clear hw
  repeat' ((conv => whnf); (first | refine csp (fun h => ?_) (fun h => ?_) | refine cll (kinds_ERRORTYPE) (fun _ => ?_) | (refine sda ?_ ?_; (focus (first | rfl | (simp; done)))) | refine sda ?_ ?_ | refine conk rfl ?_ | refine ldk rfl ?_ | refine mapk (fun x hx => ?_) | intro hl))
  all_goals conv => whnf
theorem fnd_YEAR : Ret Tryz.prog F_logic_find [.str ⟨#[89, 69, 65, 82]⟩] (.tup [.fn F_logic_of_1 [] [.elem [.fn F_logic_part_1 [] [.elem [.int .i64 0]]]], .int .i64 (1)]) := by
  refine r_logic_find rfl fun hw => ?_
  clear hw
  repeat' ((conv => whnf); (first | refine csp (fun h => ?_) (fun h => ?_) | refine cll (kinds_no_YEAR) (fun _ => ?_) | refine cll (days_YEAR) (fun _ => ?_) | (refine sda ?_ ?_; (focus (first | rfl | (simp; done)))) | refine sda ?_ ?_ | refine conk rfl ?_ | refine ldk rfl ?_ | refine mapk (fun x hx => ?_) | intro hl))
  all_goals conv => whnf
theorem fnd_MONTH : Ret Tryz.prog F_logic_find [.str ⟨#[77, 79, 78, 84, 72]⟩] (.tup [.fn F_logic_of_1 [] [.elem [.fn F_logic_part_1 [] [.elem [.int .i64 1]]]], .int .i64 (1)]) := by
  refine r_logic_find rfl fun hw => ?_
  clear hw
  repeat' ((conv => whnf); (first | refine csp (fun h => ?_) (fun h => ?_) | refine cll (kinds_no_MONTH) (fun _ => ?_) | refine cll (days_MONTH) (fun _ => ?_) | (refine sda ?_ ?_; (focus (first | rfl | (simp; done)))) | refine sda ?_ ?_ | refine conk rfl ?_ | refine ldk rfl ?_ | refine mapk (fun x hx => ?_) | intro hl))
  all_goals conv => whnf
theorem fnd_DAY : Ret Tryz.prog F_logic_find [.str ⟨#[68, 65, 89]⟩] (.tup [.fn F_logic_of_1 [] [.elem [.fn F_logic_part_1 [] [.elem [.int .i64 2]]]], .int .i64 (1)]) := by
  refine r_logic_find rfl fun hw => ?_
  clear hw
  repeat' ((conv => whnf); (first | refine csp (fun h => ?_) (fun h => ?_) | refine cll (kinds_no_DAY) (fun _ => ?_) | refine cll (days_DAY) (fun _ => ?_) | (refine sda ?_ ?_; (focus (first | rfl | (simp; done)))) | refine sda ?_ ?_ | refine conk rfl ?_ | refine ldk rfl ?_ | refine mapk (fun x hx => ?_) | intro hl))
  all_goals conv => whnf
theorem fnd_WEEKDAY : Ret Tryz.prog F_logic_find [.str ⟨#[87, 69, 69, 75, 68, 65, 89]⟩] (.tup [.fn F_logic_of_1 [] [.elem [.fn F_logic_days_1 [] []]], .int .i64 (1)]) := by
  refine r_logic_find rfl fun hw => ?_
  clear hw
  repeat' ((conv => whnf); (first | refine csp (fun h => ?_) (fun h => ?_) | refine cll (kinds_no_WEEKDAY) (fun _ => ?_) | refine cll (days_WEEKDAY) (fun _ => ?_) | (refine sda ?_ ?_; (focus (first | rfl | (simp; done)))) | refine sda ?_ ?_ | refine conk rfl ?_ | refine ldk rfl ?_ | refine mapk (fun x hx => ?_) | intro hl))
  all_goals conv => whnf
theorem fnd_WEEKNUM : Ret Tryz.prog F_logic_find [.str ⟨#[87, 69, 69, 75, 78, 85, 77]⟩] (.tup [.fn F_logic_of_1 [] [.elem [.fn F_logic_days_2 [] []]], .int .i64 (1)]) := by
  refine r_logic_find rfl fun hw => ?_
  clear hw
  repeat' ((conv => whnf); (first | refine csp (fun h => ?_) (fun h => ?_) | refine cll (kinds_no_WEEKNUM) (fun _ => ?_) | refine cll (days_WEEKNUM) (fun _ => ?_) | (refine sda ?_ ?_; (focus (first | rfl | (simp; done)))) | refine sda ?_ ?_ | refine conk rfl ?_ | refine ldk rfl ?_ | refine mapk (fun x hx => ?_) | intro hl))
  all_goals conv => whnf
theorem fnd_DATETEXT : Ret Tryz.prog F_logic_find [.str ⟨#[68, 65, 84, 69, 84, 69, 88, 84]⟩] (.tup [.fn F_logic_of_1 [] [.elem [.fn F_logic_days_3 [] []]], .int .i64 (1)]) := by
  refine r_logic_find rfl fun hw => ?_
  clear hw
  repeat' ((conv => whnf); (first | refine csp (fun h => ?_) (fun h => ?_) | refine cll (kinds_no_DATETEXT) (fun _ => ?_) | refine cll (days_DATETEXT) (fun _ => ?_) | (refine sda ?_ ?_; (focus (first | rfl | (simp; done)))) | refine sda ?_ ?_ | refine conk rfl ?_ | refine ldk rfl ?_ | refine mapk (fun x hx => ?_) | intro hl))
  all_goals conv => whnf
end Go.Proofs.YtllceoncpgebpaaGreatDoor

/- Layer 19: days and whole numbers. -/
set_option maxRecDepth 100000
set_option linter.all false
namespace Go.Proofs.YtllceoncpgebpaaGreatDoor
open Ab R
def strS (s : ByteArray) : GV := if 255 < s.size then badS 2 else ⟨2, 0, s⟩
theorem value_Str (s : ByteArray) : Ret Tryz.prog F_value_Str [.str s] (eV (strS s)) := by
  refine r_value_Str rfl fun hw => ?_
  clear hw
  repeat' ((conv => whnf); (first | refine csp (fun h => ?_) (fun h => ?_) | refine cll (value_Bad _) (fun _ => ?_) | (refine sda ?_ ?_; (focus (first | rfl | (simp; done)))) | refine sda ?_ ?_ | refine conk rfl ?_ | refine ldk rfl ?_ | refine mapk (fun x hx => ?_) | intro hl))
  all_goals conv => whnf
  all_goals try simp only [decide_eq_true_eq, decide_eq_false_iff_not, Bool.not_eq_true', Bool.not_eq_false', List.length_map, Int.not_lt, Int.not_le, Decidable.not_not, gt_iff_lt, ge_iff_le] at *
  · rw [strS, if_pos (by omega)]
  · rw [strS, if_neg (by omega)]
/-- A value's day, or its error. -/
def dyS (v : GV) : Int × Int := if 0 < (tn v).2 then (0, (tn v).2) else if (tn v).1.tdiv 10000 < 1 ∨ 2958464 < (tn v).1.tdiv 10000 then (0, 5) else ((tn v).1.tdiv 10000, 0)
theorem logic_day (a : Ar) : Ret Tryz.prog F_logic_day [eA a] (.tup [.int .i64 (dyS (oneS a)).1, .int .i64 (dyS (oneS a)).2]) := by
  refine r_logic_day rfl fun hw => ?_
  clear hw
  have hb := (tn_good (oneS_good a)).1
  simp only [goodN, decide_eq_true_eq] at hb
  have hw : IntKind.i64.wrap ((tn (oneS a)).1.tdiv 10000) = (tn (oneS a)).1.tdiv 10000 := w64 (by
    have := tdivb (n := (tn (oneS a)).1) (by simp only [goodN, decide_eq_true_eq]; exact hb)
    omega)
  repeat' ((conv => whnf); (first | refine csp (fun h => ?_) (fun h => ?_) | refine cll (maths_One _) (fun _ => ?_) | refine cll (ToNum_g _ (oneS_good a)) (fun _ => ?_) | (refine sda ?_ ?_; (focus (first | rfl | (simp; done)))) | refine sda ?_ ?_ | refine conk rfl ?_ | refine ldk rfl ?_ | refine mapk (fun x hx => ?_) | intro hl))
  all_goals conv => whnf
  all_goals try simp only [decide_eq_true_eq, decide_eq_false_iff_not, Bool.not_eq_true', Bool.not_eq_false', List.length_map, Int.not_lt, Int.not_le, Decidable.not_not, gt_iff_lt, ge_iff_le] at *
  · rw [dyS, if_pos h]
  · rw [hw] at h
    rw [dyS, if_neg (by omega), if_pos (.inl h)]
  · rw [hw] at h
    rw [dyS, if_neg (by omega), if_pos (.inr h)]
  · simp only [hw] at *
    rw [dyS, if_neg (by omega), if_neg (by omega)]
theorem dyS_bd {v : GV} (h : (dyS v).2 ≤ 0) : 1 ≤ (dyS v).1 ∧ (dyS v).1 ≤ 2958464 := by
  unfold dyS at h ⊢
  split at h
  · simp only at h; omega
  · rename_i h1
    rw [if_neg h1]
    split at h
    · simp only at h; omega
    · rename_i h2
      rw [if_neg h2]
      simp only
      omega
theorem of1_0 (g : FuncId) (q : Int → GV) (hq : ∀ d, 1 ≤ d → d ≤ 2958464 → Ret Tryz.prog g [.int .i64 d] (eV (q d))) (a : Ar) : Ret Tryz.prog F_logic_of_1 [.row false [cA a], .elem [.fn g [] []]] (eV (if 0 < (dyS (oneS a)).2 then badS (dyS (oneS a)).2 else q (dyS (oneS a)).1)) := by
  refine r_logic_of_1 rfl fun hw => ?_
  clear hw
  by_cases hd : (dyS (oneS a)).2 ≤ 0
  · obtain ⟨d1, d2⟩ := dyS_bd hd
    repeat' ((conv => whnf); (first | refine csp (fun h => ?_) (fun h => ?_) | refine cll (logic_day _) (fun _ => ?_) | refine cll (hq _ d1 d2) (fun _ => ?_) | (refine sda ?_ ?_; (focus (first | rfl | (simp; done)))) | refine sda ?_ ?_ | refine conk rfl ?_ | refine ldk rfl ?_ | refine mapk (fun x hx => ?_) | intro hl))
    all_goals conv => whnf
    all_goals try simp only [decide_eq_true_eq, decide_eq_false_iff_not, Bool.not_eq_true', Bool.not_eq_false', List.length_map, Int.not_lt, Int.not_le, Decidable.not_not, gt_iff_lt, ge_iff_le] at *
    · omega
    · rw [if_neg (by omega)]
  · repeat' ((conv => whnf); (first | refine csp (fun h => ?_) (fun h => ?_) | refine cll (logic_day _) (fun _ => ?_) | refine cll (value_Bad _) (fun _ => ?_) | (refine sda ?_ ?_; (focus (first | rfl | (simp; done)))) | refine sda ?_ ?_ | refine conk rfl ?_ | refine ldk rfl ?_ | refine mapk (fun x hx => ?_) | intro hl))
    all_goals conv => whnf
    all_goals try simp only [decide_eq_true_eq, decide_eq_false_iff_not, Bool.not_eq_true', Bool.not_eq_false', List.length_map, Int.not_lt, Int.not_le, Decidable.not_not, gt_iff_lt, ge_iff_le] at *
    · rw [if_pos h]
    · omega
/-- Whole numbers of arguments, or the first error. -/
def stI (st : List Int × Int) (a : Ar) : List Int × Int :=
  if st.2 ≠ 0 then st else if 0 < (tn (oneS a)).2 then ([], (tn (oneS a)).2) else if (wholeS (tn (oneS a)).1).2 = true then (st.1 ++ [(wholeS (tn (oneS a)).1).1], 0) else ([], 5)
def intsL (l : List Ar) : List Int × Int := l.foldl stI ([], 0)
theorem stI_err : ∀ (l : List Ar) (st : List Int × Int), st.2 ≠ 0 → l.foldl stI st = st
  | [], _, _ => rfl
  | v :: l, st, h => by rw [List.foldl_cons, stI, if_pos h]; exact stI_err l st h
abbrev cI (n : Int) : List V := [.int .i64 n]
theorem intsL_err {l : List Ar} {n : Nat} {x : Ar} (hx : l[n]? = some x) (he : (stI ((l.take n).foldl stI ([], 0)) x).2 ≠ 0) : intsL l = stI ((l.take n).foldl stI ([], 0)) x := by
  rw [intsL, foldD hx]
  exact stI_err _ _ he
theorem logic_ints (l : List Ar) (hs : l.length ≤ 10) : Ret Tryz.prog F_logic_ints [.row false (l.map cA)] (.tup [.row false ((intsL l).1.map cI), .int .i64 (intsL l).2]) := by
  refine r_logic_ints rfl fun hw => ?_
  clear hw
  repeat' ((conv => whnf); (first | refine csp (fun h => ?_) (fun h => ?_) | (refine sda ?_ ?_; (focus (first | rfl | (simp; done)))) | refine sda ?_ ?_ | refine conk rfl ?_ | refine ldk rfl ?_ | refine mapk (fun x hx => ?_) | intro hl))
  refine ⟨Nat, [4, 11, 12, 13], [2], fun n => [(4, match n with | 0 => .row true [] | n + 1 => .sl 0 0 (n + 1)), (11, .row false (l.map cA)), (12, .int .i64 (l.map cA).length), (13, .int .i64 n)], fun n => [match n with | 0 => .gone | n + 1 => .arr true 1 (((l.take (n + 1)).foldl stI ([], 0)).1.map cI)], fun n => n ≤ l.length ∧ ((l.take n).foldl stI ([], 0)).2 = 0 ∧ ((l.take n).foldl stI ([], 0)).1.length = n, fun n => l.length - n, rfl, ?_, fun n hn => ?_⟩
  · exact ⟨0, rfl, rfl, Nat.zero_le _, rfl, rfl⟩
  · obtain ⟨hn1, hn2, hn3⟩ := hn
    cases n with
    | zero =>
      repeat' ((conv => whnf); (first | refine csp (fun h => ?_) (fun h => ?_) | refine cll (maths_One _) (fun _ => ?_) | refine cll (ToNum_g _ (oneS_good _)) (fun _ => ?_) | refine cll (num_Whole _) (fun _ => ?_) | (refine sda ?_ ?_; (focus (first | rfl | (simp; done)))) | refine sda ?_ ?_ | refine conk rfl ?_ | refine ldk rfl ?_ | refine mapk (fun x hx => ?_) | intro hl))
      all_goals conv => whnf
      all_goals try simp only [decide_eq_true_eq, decide_eq_false_iff_not, Bool.not_eq_true', Bool.not_eq_false', List.length_map, Int.not_lt, Int.not_le, Decidable.not_not, gt_iff_lt, ge_iff_le] at *
      · omega
      · have hx' : l[0]? = some x := hx
        have e : stI ((l.take (0)).foldl stI ([], 0)) x = ([], (tn (oneS x)).2) := by rw [stI, if_neg (by rw [hn2]; simp), if_pos h]
        have e2 := intsL_err hx' (by rw [e]; simp only; omega)
        rw [e2, e]
        rfl
      · have hx' : l[0]? = some x := hx
        have e : stI ((l.take (0)).foldl stI ([], 0)) x = ([], 5) := by rw [stI, if_neg (by rw [hn2]; simp), if_neg (by omega), if_neg (by rw [h]; simp)]
        have e2 := intsL_err hx' (by rw [e]; simp)
        rw [e2, e]
        rfl
      · rw [List.mem_singleton.1 hl]
        rfl
      · exact Nat.le_of_ble_eq_true (by kernel_rfl)
      · have hx' : l[0]? = some x := hx
        have hlt := (List.getElem?_eq_some_iff.1 hx').1
        have e : stI ((l.take 0).foldl stI ([], 0)) x = ([(wholeS (tn (oneS x)).1).1], 0) := by rw [stI, if_neg (by rw [hn2]; simp), if_neg (by omega), if_pos h]; rfl
        have e1 : (l.take 1).foldl stI ([], 0) = ([(wholeS (tn (oneS x)).1).1], 0) := by rw [foldT hx', e]
        refine ⟨1, rfl, ?_, ⟨by omega, by rw [e1], by rw [e1]; rfl⟩, by omega⟩
        show [O.arr true 1 [cI (wholeS (tn (oneS x)).1).1]] = [O.arr true 1 (((l.take 1).foldl stI ([], 0)).1.map cI)]
        rw [e1]
        rfl
      · obtain rfl : l = [] := List.eq_nil_of_length_eq_zero (by omega)
        rfl
    | succ n =>
      repeat' ((conv => whnf); (first | refine csp (fun h => ?_) (fun h => ?_) | refine cll (maths_One _) (fun _ => ?_) | refine cll (ToNum_g _ (oneS_good _)) (fun _ => ?_) | refine cll (num_Whole _) (fun _ => ?_) | (refine sda ?_ ?_; (focus (first | rfl | (simp; done)))) | refine sda ?_ ?_ | refine conk rfl ?_ | refine ldk rfl ?_ | refine mapk (fun x hx => ?_) | intro hl))
      all_goals conv => whnf
      all_goals try simp only [decide_eq_true_eq, decide_eq_false_iff_not, Bool.not_eq_true', Bool.not_eq_false', List.length_map, Int.not_lt, Int.not_le, Decidable.not_not, gt_iff_lt, ge_iff_le] at *
      · omega
      · have hx' : l[n + 1]? = some x := hx
        have e : stI ((l.take (n + 1)).foldl stI ([], 0)) x = ([], (tn (oneS x)).2) := by rw [stI, if_neg (by rw [hn2]; simp), if_pos h]
        have e2 := intsL_err hx' (by rw [e]; simp only; omega)
        rw [e2, e]
        rfl
      · have hx' : l[n + 1]? = some x := hx
        have e : stI ((l.take (n + 1)).foldl stI ([], 0)) x = ([], 5) := by rw [stI, if_neg (by rw [hn2]; simp), if_neg (by omega), if_neg (by rw [h]; simp)]
        have e2 := intsL_err hx' (by rw [e]; simp)
        rw [e2, e]
        rfl
      · exact hn3.symm
      · rw [List.mem_singleton.1 hl]
        rfl
      · rename _ ∈ setAt _ _ _ => he
        have he : _ ∈ [cI (wholeS (tn (oneS x)).1).1] := he
        rename V => c
        rename c ∈ _ => hc
        rw [List.mem_singleton.1 he] at hc
        rw [List.mem_singleton.1 hc]
        rfl
      · refine bytesb ?_ (by kernel_rfl)
        show (((l.take (n + 1)).foldl stI ([], 0)).1).length + 1 ≤ 11
        omega
      · have hx' : l[n + 1]? = some x := hx
        have hlt := (List.getElem?_eq_some_iff.1 hx').1
        have e : stI ((l.take (n + 1)).foldl stI ([], 0)) x = (((l.take (n + 1)).foldl stI ([], 0)).1 ++ [(wholeS (tn (oneS x)).1).1], 0) := by rw [stI, if_neg (by rw [hn2]; simp), if_neg (by omega), if_pos h]
        have e1 : (l.take (n + 1 + 1)).foldl stI ([], 0) = (((l.take (n + 1)).foldl stI ([], 0)).1 ++ [(wholeS (tn (oneS x)).1).1], 0) := by rw [foldT hx', e]
        refine ⟨n + 2, ?_, ?_, ⟨by omega, by rw [e1], by rw [e1]; simp only [List.length_append, List.length_cons, List.length_nil]; omega⟩, by omega⟩
        · show [(4, V.sl 0 0 ((((l.take (n + 1)).foldl stI ([], 0)).1).length + 1)), (11, V.row false (List.map cA l)), (12, V.int IntKind.i64 l.length), (13, V.int IntKind.i64 (IntKind.i64.wrap (((n + 1 : Nat) : Int) + 1)))] = [(4, V.sl 0 0 (n + 1 + 1)), (11, V.row false (List.map cA l)), (12, V.int IntKind.i64 l.length), (13, V.int IntKind.i64 ((n + 1 + 1 : Nat) : Int))]
          rw [hn3, w64 (by omega)]
          rfl
        · show [O.arr true 1 (List.map cI (((l.take (n + 1)).foldl stI ([], 0)).1) ++ [cI (wholeS (tn (oneS x)).1).1])] = [O.arr true 1 (((l.take (n + 1 + 1)).foldl stI ([], 0)).1.map cI)]
          rw [e1, List.map_append]
          rfl
      · have h1 : l.take (n + 1) = l := List.take_of_length_le (by omega)
        rw [h1] at hn2 hn3 ⊢
        rw [List.drop_zero, List.take_of_length_le (by rw [List.length_map]; omega)]
        show V.tup [.row false ((intsL l).1.map cI), .int .i64 0] = _
        rw [show (intsL l).2 = 0 from hn2]
end Go.Proofs.YtllceoncpgebpaaGreatDoor

/- Layer 19: dates. -/
set_option maxRecDepth 100000
set_option linter.all false
namespace Go.Proofs.YtllceoncpgebpaaGreatDoor
open Ab R
theorem date_Of (y m d : Int) : Ret Tryz.prog F_date_Of [.int .i64 y, .int .i64 m, .int .i64 d] (.tup [.int .i64 (Lg.dof y m d).1, .bool (Lg.dof y m d).2]) := by
  have := Lg.dof_bd y m d
  exact c_date_Of y m d (Lg.dof y m d).1 (Lg.dof y m d).2 (Lg.Of_is y m d) (w64 (by omega))
theorem date_Months (a n : Int) (e : Bool) (h1 : 1 ≤ a) (h2 : a ≤ 2958464) : Ret Tryz.prog F_date_Months [.int .i64 a, .int .i64 n, .bool e] (.tup [.int .i64 (Lg.mnt a n e).1, .bool (Lg.mnt a n e).2]) := by
  have := Lg.mnt_bd a n e
  exact c_date_Months a n e (Lg.mnt a n e).1 (Lg.mnt a n e).2 (Lg.Mnt_is e h1 h2) (w64 (by omega))
theorem date_Parts (a : Int) (h1 : 1 ≤ a) (h2 : a ≤ 2958464) : Ret Tryz.prog F_date_Parts [.int .i64 a] (.tup [.int .i64 (Lg.prt3 a).1, .int .i64 (Lg.prt3 a).2.1, .int .i64 (Lg.prt3 a).2.2, .bool true]) := by
  have h := Lg.prt3_is h1 h2
  have := Lg.Is.bd h
  exact c_date_Parts a _ _ _ _ (Dt.Parts_is h) (w64 (by omega)) (w64 (by omega)) (w64 (by omega))
/-- A day's text. -/
noncomputable def dtx (a : Int) : ByteArray := strOfNums (Dt.fmt (Lg.prt3 a).1 (Lg.prt3 a).2.1 (Lg.prt3 a).2.2)
theorem dtx_size (a : Int) : (dtx a).size = 10 := by
  rw [dtx, Dt.son_size]
  rfl
theorem date_Print (a : Int) (h1 : 1 ≤ a) (h2 : a ≤ 2958464) : Ret Tryz.prog F_date_Print [.int .i64 a] (.str (dtx a)) := by
  have h := Lg.prt3_is h1 h2
  exact c_date_Print a (dtx a) (Dt.Print_is h) (by rw [dtx_size]; decide)
theorem parse_bd (s : ByteArray) : 0 ≤ (Dt.parse s).1 ∧ (Dt.parse s).1 ≤ 2958464 := by
  unfold Dt.parse
  split
  · exact Lg.day_bd _ _ _
  · simp
theorem date_Parse (s : ByteArray) : Ret Tryz.prog F_date_Parse [.str s] (.tup [.int .i64 (Dt.parse s).1, .bool (Dt.parse s).2]) := by
  have := parse_bd s
  exact c_date_Parse s (Dt.parse s).1 (Dt.parse s).2 (Dt.Parse_is s) (w64 (by omega))
theorem part1_0 (a : Int) (h1 : 1 ≤ a) (h2 : a ≤ 2958464) : Ret Tryz.prog F_logic_part_1 [.int .i64 a, .elem [.int .i64 0]] (eV (whS (Lg.prt3 a).1)) := by
  refine r_logic_part_1 rfl fun hw => ?_
  clear hw
  repeat' ((conv => whnf); (first | refine csp (fun h => ?_) (fun h => ?_) | refine cll (date_Parts a h1 h2) (fun _ => ?_) | refine cll (logic_whole _) (fun _ => ?_) | (refine sda ?_ ?_; (focus (first | rfl | (simp; done)))) | refine sda ?_ ?_ | refine conk rfl ?_ | refine ldk rfl ?_ | refine mapk (fun x hx => ?_) | intro hl))
  all_goals conv => whnf
theorem part1_1 (a : Int) (h1 : 1 ≤ a) (h2 : a ≤ 2958464) : Ret Tryz.prog F_logic_part_1 [.int .i64 a, .elem [.int .i64 1]] (eV (whS (Lg.prt3 a).2.1)) := by
  refine r_logic_part_1 rfl fun hw => ?_
  clear hw
  repeat' ((conv => whnf); (first | refine csp (fun h => ?_) (fun h => ?_) | refine cll (date_Parts a h1 h2) (fun _ => ?_) | refine cll (logic_whole _) (fun _ => ?_) | (refine sda ?_ ?_; (focus (first | rfl | (simp; done)))) | refine sda ?_ ?_ | refine conk rfl ?_ | refine ldk rfl ?_ | refine mapk (fun x hx => ?_) | intro hl))
  all_goals conv => whnf
theorem part1_2 (a : Int) (h1 : 1 ≤ a) (h2 : a ≤ 2958464) : Ret Tryz.prog F_logic_part_1 [.int .i64 a, .elem [.int .i64 2]] (eV (whS (Lg.prt3 a).2.2)) := by
  refine r_logic_part_1 rfl fun hw => ?_
  clear hw
  repeat' ((conv => whnf); (first | refine csp (fun h => ?_) (fun h => ?_) | refine cll (date_Parts a h1 h2) (fun _ => ?_) | refine cll (logic_whole _) (fun _ => ?_) | (refine sda ?_ ?_; (focus (first | rfl | (simp; done)))) | refine sda ?_ ?_ | refine conk rfl ?_ | refine ldk rfl ?_ | refine mapk (fun x hx => ?_) | intro hl))
  all_goals conv => whnf
theorem of1_k (k : Int) (q : Int → GV) (hq : ∀ d, 1 ≤ d → d ≤ 2958464 → Ret Tryz.prog F_logic_part_1 [.int .i64 d, .elem [.int .i64 k]] (eV (q d))) (a : Ar) : Ret Tryz.prog F_logic_of_1 [.row false [cA a], .elem [.fn F_logic_part_1 [] [.elem [.int .i64 k]]]] (eV (if 0 < (dyS (oneS a)).2 then badS (dyS (oneS a)).2 else q (dyS (oneS a)).1)) := by
  refine r_logic_of_1 rfl fun hw => ?_
  clear hw
  by_cases hd : (dyS (oneS a)).2 ≤ 0
  · obtain ⟨d1, d2⟩ := dyS_bd hd
    repeat' ((conv => whnf); (first | refine csp (fun h => ?_) (fun h => ?_) | refine cll (logic_day _) (fun _ => ?_) | refine cll (hq _ d1 d2) (fun _ => ?_) | (refine sda ?_ ?_; (focus (first | rfl | (simp; done)))) | refine sda ?_ ?_ | refine conk rfl ?_ | refine ldk rfl ?_ | refine mapk (fun x hx => ?_) | intro hl))
    all_goals conv => whnf
    all_goals try simp only [decide_eq_true_eq, decide_eq_false_iff_not, Bool.not_eq_true', Bool.not_eq_false', List.length_map, Int.not_lt, Int.not_le, Decidable.not_not, gt_iff_lt, ge_iff_le] at *
    · omega
    · rw [if_neg (by omega)]
  · repeat' ((conv => whnf); (first | refine csp (fun h => ?_) (fun h => ?_) | refine cll (logic_day _) (fun _ => ?_) | refine cll (value_Bad _) (fun _ => ?_) | (refine sda ?_ ?_; (focus (first | rfl | (simp; done)))) | refine sda ?_ ?_ | refine conk rfl ?_ | refine ldk rfl ?_ | refine mapk (fun x hx => ?_) | intro hl))
    all_goals conv => whnf
    all_goals try simp only [decide_eq_true_eq, decide_eq_false_iff_not, Bool.not_eq_true', Bool.not_eq_false', List.length_map, Int.not_lt, Int.not_le, Decidable.not_not, gt_iff_lt, ge_iff_le] at *
    · rw [if_pos h]
    · omega
theorem days_3 (a : Int) (h1 : 1 ≤ a) (h2 : a ≤ 2958464) : Ret Tryz.prog F_logic_days_3 [.int .i64 a] (eV ⟨2, 0, dtx a⟩) := by
  refine r_logic_days_3 rfl fun hw => ?_
  clear hw
  repeat' ((conv => whnf); (first | refine csp (fun h => ?_) (fun h => ?_) | refine cll (date_Print a h1 h2) (fun _ => ?_) | refine cll (value_Str _) (fun _ => ?_) | (refine sda ?_ ?_; (focus (first | rfl | (simp; done)))) | refine sda ?_ ?_ | refine conk rfl ?_ | refine ldk rfl ?_ | refine mapk (fun x hx => ?_) | intro hl))
  all_goals conv => whnf
  all_goals rw [strS, if_neg (by rw [dtx_size]; decide)]
theorem stI_len : ∀ (l : List Ar) (acc : List Int), (l.foldl stI (acc, 0)).2 = 0 → (l.foldl stI (acc, 0)).1.length = acc.length + l.length
  | [], acc, _ => rfl
  | a :: l, acc, h => by
    rw [List.foldl_cons, stI, if_neg (by simp)] at h ⊢
    split at h
    · rw [stI_err _ _ (by simp only; omega)] at h
      simp only at h
      omega
    · rename_i h1
      rw [if_neg h1]
      split at h
      · rename_i h2
        rw [if_pos h2, stI_len l _ h, List.length_append, List.length_cons, List.length_cons, List.length_nil]
        simp only
        omega
      · rw [stI_err _ _ (by simp)] at h
        simp at h
theorem stI_pos : ∀ (l : List Ar) (st : List Int × Int), 0 ≤ st.2 ∧ st.2 ≤ 8 → 0 ≤ (l.foldl stI st).2 ∧ (l.foldl stI st).2 ≤ 8
  | [], _, h => h
  | a :: l, st, h => by
    rw [List.foldl_cons]
    refine stI_pos l _ ?_
    have := tn_good (oneS_good a)
    unfold stI
    split
    · exact h
    · split
      · exact ⟨by simp only; omega, by simp only; omega⟩
      · split <;> simp
theorem intsL_len (l : List Ar) (h : (intsL l).2 = 0) : (intsL l).1.length = l.length := by
  have := stI_len l [] h
  simpa [intsL] using this
theorem intsL_pos (l : List Ar) : 0 ≤ (intsL l).2 ∧ (intsL l).2 ≤ 8 := stI_pos l ([], 0) (by simp)
theorem getD_of {l : List Int} {n : Nat} {x : Int} (h : l[n]? = some x) : l.getD n 0 = x := by
  rw [List.getD_eq_getElem?_getD, h]
  rfl
/-- Three whole numbers as a day. -/
def dateS (l : List Ar) : GV := if 0 < (intsL l).2 then badS (intsL l).2 else toldS (Lg.dof ((intsL l).1.getD 0 0) ((intsL l).1.getD 1 0) ((intsL l).1.getD 2 0)).1 (Lg.dof ((intsL l).1.getD 0 0) ((intsL l).1.getD 1 0) ((intsL l).1.getD 2 0)).2
theorem find_5 (a b c : Ar) : Ret Tryz.prog F_logic_find_5 [.row false [cA a, cA b, cA c]] (eV (dateS [a, b, c])) := by
  have hi := logic_ints [a, b, c] (show 3 ≤ 10 by decide)
  have hl := intsL_len [a, b, c]
  have hp := intsL_pos [a, b, c]
  refine r_logic_find_5 rfl fun hw => ?_
  clear hw
  repeat' ((conv => whnf); (first | refine csp (fun h => ?_) (fun h => ?_) | refine cll (hi) (fun _ => ?_) | refine cll (value_Bad _) (fun _ => ?_) | refine cll (date_Of _ _ _) (fun _ => ?_) | refine cll (logic_told _ _) (fun _ => ?_) | (refine sda ?_ ?_; (focus (first | rfl | (simp; done)))) | refine sda ?_ ?_ | refine conk rfl ?_ | refine ldk rfl ?_ | refine mapk (fun x hx => ?_) | intro hl))
  all_goals conv => whnf
  all_goals try simp only [decide_eq_true_eq, decide_eq_false_iff_not, Bool.not_eq_true', Bool.not_eq_false', List.length_map, Int.not_lt, Int.not_le, Decidable.not_not, gt_iff_lt, ge_iff_le] at *
  · rw [dateS, if_pos h]
  · have := hl (by omega)
    simp only [List.length_cons, List.length_nil] at this
    omega
  · have := hl (by omega)
    simp only [List.length_cons, List.length_nil] at this
    omega
  · have := hl (by omega)
    simp only [List.length_cons, List.length_nil] at this
    omega
  · rename (intsL [a, b, c]).1[Int.toNat 0]? = _ => h0
    rename (intsL [a, b, c]).1[Int.toNat 1]? = _ => h1
    rw [dateS, if_neg (by omega), show (intsL [a, b, c]).1.getD 0 0 = _ from getD_of h0, show (intsL [a, b, c]).1.getD 1 0 = _ from getD_of h1, show (intsL [a, b, c]).1.getD 2 0 = _ from getD_of hx]
theorem find_7 (a : Ar) : Ret Tryz.prog F_logic_find_7 [.row false [cA a]] (eV (if 0 < (tx (oneS a)).2 then badS (tx (oneS a)).2 else if (Dt.parse (tx (oneS a)).1).2 = true then whS (Dt.parse (tx (oneS a)).1).1 else badS 2)) := by
  refine r_logic_find_7 rfl fun hw => ?_
  clear hw
  repeat' ((conv => whnf); (first | refine csp (fun h => ?_) (fun h => ?_) | refine cll (maths_One _) (fun _ => ?_) | refine cll (ToText_g _ (oneS_good a)) (fun _ => ?_) | refine cll (value_Bad _) (fun _ => ?_) | refine cll (date_Parse _) (fun _ => ?_) | refine cll (logic_whole _) (fun _ => ?_) | (refine sda ?_ ?_; (focus (first | rfl | (simp; done)))) | refine sda ?_ ?_ | refine conk rfl ?_ | refine ldk rfl ?_ | refine mapk (fun x hx => ?_) | intro hl))
  all_goals conv => whnf
  all_goals try simp only [decide_eq_true_eq, decide_eq_false_iff_not, Bool.not_eq_true', Bool.not_eq_false', List.length_map, Int.not_lt, Int.not_le, Decidable.not_not, gt_iff_lt, ge_iff_le] at *
  · rw [if_pos h]
  · rw [if_neg (by omega), if_neg (by rw [h]; simp)]
  · rw [if_neg (by omega), if_pos h]
theorem months1 (a b : Ar) (e : Bool) : Ret Tryz.prog F_logic_months_1 [.row false [cA a, cA b], .elem [.bool e]] (eV (if 0 < (dyS (oneS a)).2 then badS (dyS (oneS a)).2 else if 0 < (intsL [b]).2 then badS (intsL [b]).2 else toldS (Lg.mnt (dyS (oneS a)).1 ((intsL [b]).1.getD 0 0) e).1 (Lg.mnt (dyS (oneS a)).1 ((intsL [b]).1.getD 0 0) e).2)) := by
  have hi := logic_ints [b] (show 1 ≤ 10 by decide)
  have hl := intsL_len [b]
  have hp := intsL_pos [b]
  refine r_logic_months_1 rfl fun hw => ?_
  clear hw
  by_cases hd : (dyS (oneS a)).2 ≤ 0
  · obtain ⟨d1, d2⟩ := dyS_bd hd
    repeat' ((conv => whnf); (first | refine csp (fun h => ?_) (fun h => ?_) | refine cll (logic_day _) (fun _ => ?_) | refine cll (hi) (fun _ => ?_) | refine cll (value_Bad _) (fun _ => ?_) | refine cll (date_Months _ _ _ d1 d2) (fun _ => ?_) | refine cll (logic_told _ _) (fun _ => ?_) | (refine sda ?_ ?_; (focus (first | rfl | (simp; done)))) | refine sda ?_ ?_ | refine conk rfl ?_ | refine ldk rfl ?_ | refine mapk (fun x hx => ?_) | intro hl))
    all_goals conv => whnf
    all_goals try simp only [decide_eq_true_eq, decide_eq_false_iff_not, Bool.not_eq_true', Bool.not_eq_false', List.length_map, Int.not_lt, Int.not_le, Decidable.not_not, gt_iff_lt, ge_iff_le] at *
    · omega
    · rw [if_neg (by omega), if_pos h]
    · have := hl (by omega)
      simp only [List.length_cons, List.length_nil] at this
      omega
    · rw [if_neg (by omega), if_neg (by omega), show (intsL [b]).1.getD 0 0 = _ from getD_of hx]
  · repeat' ((conv => whnf); (first | refine csp (fun h => ?_) (fun h => ?_) | refine cll (logic_day _) (fun _ => ?_) | refine cll (hi) (fun _ => ?_) | refine cll (value_Bad _) (fun _ => ?_) | (refine sda ?_ ?_; (focus (first | rfl | (simp; done)))) | refine sda ?_ ?_ | refine conk rfl ?_ | refine ldk rfl ?_ | refine mapk (fun x hx => ?_) | intro hl))
    all_goals conv => whnf
    all_goals try simp only [decide_eq_true_eq, decide_eq_false_iff_not, Bool.not_eq_true', Bool.not_eq_false', List.length_map, Int.not_lt, Int.not_le, Decidable.not_not, gt_iff_lt, ge_iff_le] at *
    · rw [if_pos h]
    all_goals omega
end Go.Proofs.YtllceoncpgebpaaGreatDoor

/- Layer 19: the examples live. -/
set_option maxRecDepth 100000
set_option linter.all false
namespace Go.Proofs.YtllceoncpgebpaaGreatDoor
open Ab R
abbrev oA (v : GV) : Ar := ⟨1, 1, [v], false⟩
theorem one_oA {v : GV} (h : goodV v = true) : oneS (oA v) = v := by
  have : goodA (oA v) = true := goodA_yes ⟨by simp [oA], by simp [oA], by simp [oA], by simp [oA], rfl⟩ (by simp [oA, h])
  rw [oneS, if_pos ⟨rfl, this⟩]
  rfl
theorem lv1 : Ret Tryz.prog F_octavolaw19_ask [.str ⟨#[65, 78, 68]⟩, .row false [cA (oA ⟨3, 1, e0⟩), cA (oA ⟨1, 10000, e0⟩)]] (eV ⟨3, 1, e0⟩) := by
  have h := votes_1 F_logic_find_1 (fun _ n => decide (n = 0)) find_1 [oA ⟨3, 1, e0⟩, oA ⟨1, 10000, e0⟩]
  rw [show votesS [oA ⟨3, 1, e0⟩, oA ⟨1, 10000, e0⟩] = (0, 2, 0) by decide +kernel] at h
  exact l19_askF _ _ _ _ _ _ fnd_AND h (.inl ⟨by decide, by decide⟩)
theorem lv2 : Ret Tryz.prog F_octavolaw19_ask [.str ⟨#[84, 89, 80, 69]⟩, .row false [cA (oA ⟨2, 0, ⟨#[97]⟩⟩)]] (eV ⟨1, 20000, e0⟩) := by
  have h := kinds_4 (oA ⟨2, 0, ⟨#[97]⟩⟩)
  rw [one_oA (by decide +kernel)] at h
  exact l19_ask0 _ _ _ _ _ fnd_TYPE h (.inr rfl)
theorem lv3 : Ret Tryz.prog F_octavolaw19_ask [.str ⟨#[68, 65, 84, 69]⟩, .row false [cA (oA ⟨1, 20240000, e0⟩), cA (oA ⟨1, 20000, e0⟩), cA (oA ⟨1, 300000, e0⟩)]] (eV ⟨1, 453510000, e0⟩) := by
  have h := find_5 (oA ⟨1, 20240000, e0⟩) (oA ⟨1, 20000, e0⟩) (oA ⟨1, 300000, e0⟩)
  rw [show dateS [oA ⟨1, 20240000, e0⟩, oA ⟨1, 20000, e0⟩, oA ⟨1, 300000, e0⟩] = ⟨1, 453510000, e0⟩ by rfl] at h
  exact l19_ask0 _ _ _ _ _ fnd_DATE h (.inr rfl)
theorem lv4 : Ret Tryz.prog F_octavolaw19_ask [.str ⟨#[68, 65, 84, 69, 84, 69, 88, 84]⟩, .row false [cA (oA ⟨1, 453510000, e0⟩)]] (eV ⟨2, 0, ⟨#[50, 48, 50, 52, 45, 48, 51, 45, 48, 49]⟩⟩) := by
  have h := of1_0 F_logic_days_3 (fun d => ⟨2, 0, dtx d⟩) days_3 (oA ⟨1, 453510000, e0⟩)
  rw [one_oA (by decide +kernel), show dyS ⟨1, 453510000, e0⟩ = (45351, 0) by decide +kernel, if_neg (by decide)] at h
  have e : dtx 45351 = ⟨#[50, 48, 50, 52, 45, 48, 51, 45, 48, 49]⟩ := by
    rw [dtx, Lg.prt3_eq (show Dt.Is 45351 2024 3 1 by unfold Dt.Is; decide)]
    rfl
  simp only [e] at h
  exact l19_askF _ _ _ _ _ _ fnd_DATETEXT h (.inr rfl)
theorem lv5 : Ret Tryz.prog F_octavolaw19_ask [.str ⟨#[73, 83, 69, 82, 82]⟩, .row false [cA (oA ⟨4, 6, e0⟩)]] (eV ⟨3, 0, e0⟩) := by
  have h := is1_0 F_logic_kinds_3 _ kinds_3 (oA ⟨4, 6, e0⟩)
  rw [one_oA (by decide +kernel)] at h
  exact l19_askF _ _ _ _ _ _ fnd_ISERR h (.inr rfl)
theorem l19_lives : Ret Tryz.prog F_octavolaw19_lives [] (.bool true) := by
  refine r_octavolaw19_lives rfl fun hw => ?_
  clear hw
  repeat' ((conv => whnf); (first | refine csp (fun h => ?_) (fun h => ?_) | refine cll (lv1) (fun _ => ?_) | refine cll (lv2) (fun _ => ?_) | refine cll (lv3) (fun _ => ?_) | refine cll (lv4) (fun _ => ?_) | refine cll (lv5) (fun _ => ?_) | refine cll (l19_one ⟨_, _, _⟩) (fun _ => ?_) | refine cll (l19_number _) (fun _ => ?_) | refine cll (l19_text _) (fun _ => ?_) | (refine sda ?_ ?_; (focus (first | rfl | (simp; done)))) | refine sda ?_ ?_ | refine conk rfl ?_ | refine ldk rfl ?_ | refine mapk (fun x hx => ?_) | intro hl))
  all_goals conv => whnf
  all_goals rfl
end Go.Proofs.YtllceoncpgebpaaGreatDoor

/- Layer 19: whatever the name and the arguments. -/
set_option maxRecDepth 100000
set_option linter.all false
namespace Go.Proofs.YtllceoncpgebpaaGreatDoor
open Ab R
theorem l19_bad0 (nm : ByteArray) (g : FuncId)  (n : Int) (args : List (List V)) (hf : Ret Tryz.prog F_logic_find [.str nm] (.tup [.fn g [] [], .int .i64 n])) (h1 : (n < 0 ∧ args.length = 0) ∨ (0 ≤ n ∧ args.length ≠ n)) :
    Ret Tryz.prog F_logic_Call [.str nm, .row false args] (.tup [eV (badS 2), .bool true]) := by
  refine r_logic_Call rfl fun hw => ?_
  clear hw
  rcases h1 with ⟨h2, h3⟩ | ⟨h2, h3⟩
  · repeat' ((conv => whnf); (first | refine csp (fun h => ?_) (fun h => ?_) | refine cll (hf) (fun _ => ?_) | refine cll (value_Bad _) (fun _ => ?_) | (refine sda ?_ ?_; (focus (first | rfl | (simp; done)))) | refine sda ?_ ?_ | refine conk rfl ?_ | refine ldk rfl ?_ | refine mapk (fun x hx => ?_) | intro hl))
    all_goals conv => whnf
    all_goals try simp only [decide_eq_true_eq, decide_eq_false_iff_not, Bool.not_eq_true', Bool.not_eq_false', List.length_map, Int.not_lt, Int.not_le, Decidable.not_not, gt_iff_lt, ge_iff_le] at *
    all_goals exfalso
    all_goals omega
  · repeat' ((conv => whnf); (first | refine csp (fun h => ?_) (fun h => ?_) | refine cll (hf) (fun _ => ?_) | refine cll (value_Bad _) (fun _ => ?_) | (refine sda ?_ ?_; (focus (first | rfl | (simp; done)))) | refine sda ?_ ?_ | refine conk rfl ?_ | refine ldk rfl ?_ | refine mapk (fun x hx => ?_) | intro hl))
    all_goals conv => whnf
    all_goals try simp only [decide_eq_true_eq, decide_eq_false_iff_not, Bool.not_eq_true', Bool.not_eq_false', List.length_map, Int.not_lt, Int.not_le, Decidable.not_not, gt_iff_lt, ge_iff_le] at *
    all_goals exfalso
    all_goals omega
theorem l19_badF (nm : ByteArray) (g : FuncId) (f : FuncId) (n : Int) (args : List (List V)) (hf : Ret Tryz.prog F_logic_find [.str nm] (.tup [.fn g [] [.elem [.fn f [] []]], .int .i64 n])) (h1 : (n < 0 ∧ args.length = 0) ∨ (0 ≤ n ∧ args.length ≠ n)) :
    Ret Tryz.prog F_logic_Call [.str nm, .row false args] (.tup [eV (badS 2), .bool true]) := by
  refine r_logic_Call rfl fun hw => ?_
  clear hw
  rcases h1 with ⟨h2, h3⟩ | ⟨h2, h3⟩
  · repeat' ((conv => whnf); (first | refine csp (fun h => ?_) (fun h => ?_) | refine cll (hf) (fun _ => ?_) | refine cll (value_Bad _) (fun _ => ?_) | (refine sda ?_ ?_; (focus (first | rfl | (simp; done)))) | refine sda ?_ ?_ | refine conk rfl ?_ | refine ldk rfl ?_ | refine mapk (fun x hx => ?_) | intro hl))
    all_goals conv => whnf
    all_goals try simp only [decide_eq_true_eq, decide_eq_false_iff_not, Bool.not_eq_true', Bool.not_eq_false', List.length_map, Int.not_lt, Int.not_le, Decidable.not_not, gt_iff_lt, ge_iff_le] at *
    all_goals exfalso
    all_goals omega
  · repeat' ((conv => whnf); (first | refine csp (fun h => ?_) (fun h => ?_) | refine cll (hf) (fun _ => ?_) | refine cll (value_Bad _) (fun _ => ?_) | (refine sda ?_ ?_; (focus (first | rfl | (simp; done)))) | refine sda ?_ ?_ | refine conk rfl ?_ | refine ldk rfl ?_ | refine mapk (fun x hx => ?_) | intro hl))
    all_goals conv => whnf
    all_goals try simp only [decide_eq_true_eq, decide_eq_false_iff_not, Bool.not_eq_true', Bool.not_eq_false', List.length_map, Int.not_lt, Int.not_le, Decidable.not_not, gt_iff_lt, ge_iff_le] at *
    all_goals exfalso
    all_goals omega
theorem l19_badK (nm : ByteArray) (g : FuncId) (f : FuncId) (k : Int) (n : Int) (args : List (List V)) (hf : Ret Tryz.prog F_logic_find [.str nm] (.tup [.fn g [] [.elem [.fn f [] [.elem [.int .i64 k]]]], .int .i64 n])) (h1 : (n < 0 ∧ args.length = 0) ∨ (0 ≤ n ∧ args.length ≠ n)) :
    Ret Tryz.prog F_logic_Call [.str nm, .row false args] (.tup [eV (badS 2), .bool true]) := by
  refine r_logic_Call rfl fun hw => ?_
  clear hw
  rcases h1 with ⟨h2, h3⟩ | ⟨h2, h3⟩
  · repeat' ((conv => whnf); (first | refine csp (fun h => ?_) (fun h => ?_) | refine cll (hf) (fun _ => ?_) | refine cll (value_Bad _) (fun _ => ?_) | (refine sda ?_ ?_; (focus (first | rfl | (simp; done)))) | refine sda ?_ ?_ | refine conk rfl ?_ | refine ldk rfl ?_ | refine mapk (fun x hx => ?_) | intro hl))
    all_goals conv => whnf
    all_goals try simp only [decide_eq_true_eq, decide_eq_false_iff_not, Bool.not_eq_true', Bool.not_eq_false', List.length_map, Int.not_lt, Int.not_le, Decidable.not_not, gt_iff_lt, ge_iff_le] at *
    all_goals exfalso
    all_goals omega
  · repeat' ((conv => whnf); (first | refine csp (fun h => ?_) (fun h => ?_) | refine cll (hf) (fun _ => ?_) | refine cll (value_Bad _) (fun _ => ?_) | (refine sda ?_ ?_; (focus (first | rfl | (simp; done)))) | refine sda ?_ ?_ | refine conk rfl ?_ | refine ldk rfl ?_ | refine mapk (fun x hx => ?_) | intro hl))
    all_goals conv => whnf
    all_goals try simp only [decide_eq_true_eq, decide_eq_false_iff_not, Bool.not_eq_true', Bool.not_eq_false', List.length_map, Int.not_lt, Int.not_le, Decidable.not_not, gt_iff_lt, ge_iff_le] at *
    all_goals exfalso
    all_goals omega
theorem l19_badB (nm : ByteArray) (g : FuncId) (b : Bool) (n : Int) (args : List (List V)) (hf : Ret Tryz.prog F_logic_find [.str nm] (.tup [.fn g [] [.elem [.bool b]], .int .i64 n])) (h1 : (n < 0 ∧ args.length = 0) ∨ (0 ≤ n ∧ args.length ≠ n)) :
    Ret Tryz.prog F_logic_Call [.str nm, .row false args] (.tup [eV (badS 2), .bool true]) := by
  refine r_logic_Call rfl fun hw => ?_
  clear hw
  rcases h1 with ⟨h2, h3⟩ | ⟨h2, h3⟩
  · repeat' ((conv => whnf); (first | refine csp (fun h => ?_) (fun h => ?_) | refine cll (hf) (fun _ => ?_) | refine cll (value_Bad _) (fun _ => ?_) | (refine sda ?_ ?_; (focus (first | rfl | (simp; done)))) | refine sda ?_ ?_ | refine conk rfl ?_ | refine ldk rfl ?_ | refine mapk (fun x hx => ?_) | intro hl))
    all_goals conv => whnf
    all_goals try simp only [decide_eq_true_eq, decide_eq_false_iff_not, Bool.not_eq_true', Bool.not_eq_false', List.length_map, Int.not_lt, Int.not_le, Decidable.not_not, gt_iff_lt, ge_iff_le] at *
    all_goals exfalso
    all_goals omega
  · repeat' ((conv => whnf); (first | refine csp (fun h => ?_) (fun h => ?_) | refine cll (hf) (fun _ => ?_) | refine cll (value_Bad _) (fun _ => ?_) | (refine sda ?_ ?_; (focus (first | rfl | (simp; done)))) | refine sda ?_ ?_ | refine conk rfl ?_ | refine ldk rfl ?_ | refine mapk (fun x hx => ?_) | intro hl))
    all_goals conv => whnf
    all_goals try simp only [decide_eq_true_eq, decide_eq_false_iff_not, Bool.not_eq_true', Bool.not_eq_false', List.length_map, Int.not_lt, Int.not_le, Decidable.not_not, gt_iff_lt, ge_iff_le] at *
    all_goals exfalso
    all_goals omega
theorem l19_badV (nm : ByteArray) (g : FuncId) (v : GV) (n : Int) (args : List (List V)) (hf : Ret Tryz.prog F_logic_find [.str nm] (.tup [.fn g [] [.elem (cV v)], .int .i64 n])) (h1 : (n < 0 ∧ args.length = 0) ∨ (0 ≤ n ∧ args.length ≠ n)) :
    Ret Tryz.prog F_logic_Call [.str nm, .row false args] (.tup [eV (badS 2), .bool true]) := by
  refine r_logic_Call rfl fun hw => ?_
  clear hw
  rcases h1 with ⟨h2, h3⟩ | ⟨h2, h3⟩
  · repeat' ((conv => whnf); (first | refine csp (fun h => ?_) (fun h => ?_) | refine cll (hf) (fun _ => ?_) | refine cll (value_Bad _) (fun _ => ?_) | (refine sda ?_ ?_; (focus (first | rfl | (simp; done)))) | refine sda ?_ ?_ | refine conk rfl ?_ | refine ldk rfl ?_ | refine mapk (fun x hx => ?_) | intro hl))
    all_goals conv => whnf
    all_goals try simp only [decide_eq_true_eq, decide_eq_false_iff_not, Bool.not_eq_true', Bool.not_eq_false', List.length_map, Int.not_lt, Int.not_le, Decidable.not_not, gt_iff_lt, ge_iff_le] at *
    all_goals exfalso
    all_goals omega
  · repeat' ((conv => whnf); (first | refine csp (fun h => ?_) (fun h => ?_) | refine cll (hf) (fun _ => ?_) | refine cll (value_Bad _) (fun _ => ?_) | (refine sda ?_ ?_; (focus (first | rfl | (simp; done)))) | refine sda ?_ ?_ | refine conk rfl ?_ | refine ldk rfl ?_ | refine mapk (fun x hx => ?_) | intro hl))
    all_goals conv => whnf
    all_goals try simp only [decide_eq_true_eq, decide_eq_false_iff_not, Bool.not_eq_true', Bool.not_eq_false', List.length_map, Int.not_lt, Int.not_le, Decidable.not_not, gt_iff_lt, ge_iff_le] at *
    all_goals exfalso
    all_goals omega
theorem goodV_of (n : Int) (ok : Bool) : goodV (ofS n ok) = true := by
  unfold ofS
  split
  · rename_i h
    simp only [Bool.and_eq_true] at h
    simp [goodV, h.2]
  · exact goodV_bad 5
theorem goodV_wh (k : Int) : goodV (whS k) = true := goodV_of _ _
theorem goodV_told (d : Int) (ok : Bool) : goodV (toldS d ok) = true := by
  unfold toldS
  split
  · exact goodV_wh _
  · exact goodV_bad 5
theorem goodV_tru (b : Bool) : goodV (truS b) = true := by cases b <;> rfl
theorem goodV_ite {c : Prop} [Decidable c] {a b : GV} (ha : goodV a = true) (hb : goodV b = true) : goodV (if c then a else b) = true := by
  split
  · exact ha
  · exact hb
theorem goodV_dtx (a : Int) : goodV ⟨2, 0, dtx a⟩ = true := by
  have := dtx_size a
  simp [goodV, this]
theorem days_1 (a : Int) (h1 : 1 ≤ a) (h2 : a ≤ 2958464) : Ret Tryz.prog F_logic_days_1 [.int .i64 a] (eV (whS (a % 7 + 1))) := by
  have hd : Ret Tryz.prog F_date_Weekday [.int .i64 a] (.int .i64 (a % 7 + 1)) := c_date_Weekday a _ (by rw [Dt.Weekday_is, if_pos ⟨h1, h2⟩]) (w64 (by omega))
  refine r_logic_days_1 rfl fun hw => ?_
  clear hw
  repeat' ((conv => whnf); (first | refine csp (fun h => ?_) (fun h => ?_) | refine cll (hd) (fun _ => ?_) | refine cll (logic_whole _) (fun _ => ?_) | (refine sda ?_ ?_; (focus (first | rfl | (simp; done)))) | refine sda ?_ ?_ | refine conk rfl ?_ | refine ldk rfl ?_ | refine mapk (fun x hx => ?_) | intro hl))
  all_goals conv => whnf
/-- A day's week. -/
noncomputable def wkS (a : Int) : Int := (Dt.thu a - Dt.ah (Lg.prt3 (Dt.thu a)).1 - 1) / 7 + 1
theorem wkS_bd {a : Int} (h1 : 1 ≤ a) (h2 : a ≤ 2958464) : -10000000 ≤ wkS a ∧ wkS a ≤ 10000000 := by
  have ht := Dt.thu_bd h1 h2
  have hi := Lg.Is.bd (Lg.prt3_is (a := Dt.thu a) (by omega) ht.2)
  have ha := Dt.ah_bd (y := (Lg.prt3 (Dt.thu a)).1) (by omega) (by omega)
  unfold wkS
  omega
theorem days_2 (a : Int) (h1 : 1 ≤ a) (h2 : a ≤ 2958464) : Ret Tryz.prog F_logic_days_2 [.int .i64 a] (eV (whS (wkS a))) := by
  have ht := Dt.thu_bd h1 h2
  have hb := wkS_bd h1 h2
  have hd : Ret Tryz.prog F_date_Week [.int .i64 a] (.int .i64 (wkS a)) := c_date_Week a _ (Dt.Week_is h1 h2 (Lg.prt3_is (a := Dt.thu a) (by omega) ht.2)) (w64 (by omega))
  refine r_logic_days_2 rfl fun hw => ?_
  clear hw
  repeat' ((conv => whnf); (first | refine csp (fun h => ?_) (fun h => ?_) | refine cll (hd) (fun _ => ?_) | refine cll (logic_whole _) (fun _ => ?_) | (refine sda ?_ ?_; (focus (first | rfl | (simp; done)))) | refine sda ?_ ?_ | refine conk rfl ?_ | refine ldk rfl ?_ | refine mapk (fun x hx => ?_) | intro hl))
  all_goals conv => whnf
theorem find_6 (a b : Ar) : Ret Tryz.prog F_logic_find_6 [.row false [cA a, cA b]] (eV (if 0 < (dyS (oneS a)).2 then badS (dyS (oneS a)).2 else if 0 < (dyS (oneS b)).2 then badS (dyS (oneS b)).2 else whS (IntKind.i64.wrap ((dyS (oneS a)).1 - (dyS (oneS b)).1)))) := by
  refine r_logic_find_6 rfl fun hw => ?_
  clear hw
  repeat' ((conv => whnf); (first | refine csp (fun h => ?_) (fun h => ?_) | refine cll (logic_day _) (fun _ => ?_) | refine cll (value_Bad _) (fun _ => ?_) | refine cll (logic_whole _) (fun _ => ?_) | (refine sda ?_ ?_; (focus (first | rfl | (simp; done)))) | refine sda ?_ ?_ | refine conk rfl ?_ | refine ldk rfl ?_ | refine mapk (fun x hx => ?_) | intro hl))
  all_goals conv => whnf
  all_goals try simp only [decide_eq_true_eq, decide_eq_false_iff_not, Bool.not_eq_true', Bool.not_eq_false', List.length_map, Int.not_lt, Int.not_le, Decidable.not_not, gt_iff_lt, ge_iff_le] at *
  · rw [if_pos h]
  · rw [if_neg (by omega), if_pos h]
  · rw [if_neg (by omega), if_neg (by omega)]
theorem kinds_none (nm : ByteArray) (hn : nm ∉ ([⟨#[73, 83, 66, 76, 65, 78, 75]⟩, ⟨#[73, 83, 78, 85, 77, 66, 69, 82]⟩, ⟨#[73, 83, 84, 69, 88, 84]⟩, ⟨#[73, 83, 76, 79, 71, 73, 67, 65, 76]⟩, ⟨#[73, 83, 69, 82, 82, 79, 82]⟩, ⟨#[73, 83, 78, 79, 78, 84, 69, 88, 84]⟩, ⟨#[73, 83, 78, 65]⟩, ⟨#[73, 83, 69, 82, 82]⟩, ⟨#[84, 89, 80, 69]⟩, ⟨#[69, 82, 82, 79, 82, 84, 89, 80, 69]⟩] : List ByteArray)) : Ret Tryz.prog F_logic_kinds [.str nm] .nilFn := by
  simp only [List.mem_cons, List.not_mem_nil, or_false, not_or] at hn
  refine r_logic_kinds rfl fun hw => ?_
  clear hw
  repeat' ((conv => whnf); (first | refine csp (fun h => ?_) (fun h => ?_) | (refine sda ?_ ?_; (focus (first | rfl | (simp; done)))) | refine sda ?_ ?_ | refine conk rfl ?_ | refine ldk rfl ?_ | refine mapk (fun x hx => ?_) | intro hl))
  all_goals conv => whnf
  all_goals try simp only [decide_eq_true_eq, decide_eq_false_iff_not, Bool.not_eq_true', Bool.not_eq_false', List.length_map, Int.not_lt, Int.not_le, Decidable.not_not, gt_iff_lt, ge_iff_le] at *
  all_goals exfalso
  all_goals subst h
  all_goals simp at hn
theorem days_none (nm : ByteArray) (hn : nm ∉ ([⟨#[89, 69, 65, 82]⟩, ⟨#[77, 79, 78, 84, 72]⟩, ⟨#[68, 65, 89]⟩, ⟨#[87, 69, 69, 75, 68, 65, 89]⟩, ⟨#[87, 69, 69, 75, 78, 85, 77]⟩, ⟨#[68, 65, 84, 69, 84, 69, 88, 84]⟩] : List ByteArray)) : Ret Tryz.prog F_logic_days [.str nm] .nilFn := by
  simp only [List.mem_cons, List.not_mem_nil, or_false, not_or] at hn
  refine r_logic_days rfl fun hw => ?_
  clear hw
  repeat' ((conv => whnf); (first | refine csp (fun h => ?_) (fun h => ?_) | (refine sda ?_ ?_; (focus (first | rfl | (simp; done)))) | refine sda ?_ ?_ | refine conk rfl ?_ | refine ldk rfl ?_ | refine mapk (fun x hx => ?_) | intro hl))
  all_goals conv => whnf
  all_goals try simp only [decide_eq_true_eq, decide_eq_false_iff_not, Bool.not_eq_true', Bool.not_eq_false', List.length_map, Int.not_lt, Int.not_le, Decidable.not_not, gt_iff_lt, ge_iff_le] at *
  all_goals exfalso
  all_goals subst h
  all_goals simp at hn
def names19 : List ByteArray := [⟨#[65, 78, 68]⟩, ⟨#[79, 82]⟩, ⟨#[88, 79, 82]⟩, ⟨#[78, 79, 84]⟩, ⟨#[84, 82, 85, 69]⟩, ⟨#[70, 65, 76, 83, 69]⟩, ⟨#[78, 65]⟩, ⟨#[68, 65, 84, 69]⟩, ⟨#[69, 68, 65, 84, 69]⟩, ⟨#[69, 79, 77, 79, 78, 84, 72]⟩, ⟨#[68, 65, 89, 83]⟩, ⟨#[68, 65, 84, 69, 86, 65, 76, 85, 69]⟩] ++ ([⟨#[73, 83, 66, 76, 65, 78, 75]⟩, ⟨#[73, 83, 78, 85, 77, 66, 69, 82]⟩, ⟨#[73, 83, 84, 69, 88, 84]⟩, ⟨#[73, 83, 76, 79, 71, 73, 67, 65, 76]⟩, ⟨#[73, 83, 69, 82, 82, 79, 82]⟩, ⟨#[73, 83, 78, 79, 78, 84, 69, 88, 84]⟩, ⟨#[73, 83, 78, 65]⟩, ⟨#[73, 83, 69, 82, 82]⟩, ⟨#[84, 89, 80, 69]⟩, ⟨#[69, 82, 82, 79, 82, 84, 89, 80, 69]⟩] ++ [⟨#[89, 69, 65, 82]⟩, ⟨#[77, 79, 78, 84, 72]⟩, ⟨#[68, 65, 89]⟩, ⟨#[87, 69, 69, 75, 68, 65, 89]⟩, ⟨#[87, 69, 69, 75, 78, 85, 77]⟩, ⟨#[68, 65, 84, 69, 84, 69, 88, 84]⟩])
theorem find_none (nm : ByteArray) (hn : nm ∉ names19) : Ret Tryz.prog F_logic_find [.str nm] (.tup [.nilFn, .int .i64 1]) := by
  have hk : nm ∉ ([⟨#[73, 83, 66, 76, 65, 78, 75]⟩, ⟨#[73, 83, 78, 85, 77, 66, 69, 82]⟩, ⟨#[73, 83, 84, 69, 88, 84]⟩, ⟨#[73, 83, 76, 79, 71, 73, 67, 65, 76]⟩, ⟨#[73, 83, 69, 82, 82, 79, 82]⟩, ⟨#[73, 83, 78, 79, 78, 84, 69, 88, 84]⟩, ⟨#[73, 83, 78, 65]⟩, ⟨#[73, 83, 69, 82, 82]⟩, ⟨#[84, 89, 80, 69]⟩, ⟨#[69, 82, 82, 79, 82, 84, 89, 80, 69]⟩] : List ByteArray) := fun q => hn (List.mem_append_right _ (List.mem_append_left _ q))
  have hd : nm ∉ ([⟨#[89, 69, 65, 82]⟩, ⟨#[77, 79, 78, 84, 72]⟩, ⟨#[68, 65, 89]⟩, ⟨#[87, 69, 69, 75, 68, 65, 89]⟩, ⟨#[87, 69, 69, 75, 78, 85, 77]⟩, ⟨#[68, 65, 84, 69, 84, 69, 88, 84]⟩] : List ByteArray) := fun q => hn (List.mem_append_right _ (List.mem_append_right _ q))
  simp only [names19, List.mem_append, List.mem_cons, List.not_mem_nil, or_false, not_or] at hn
  refine r_logic_find rfl fun hw => ?_
  clear hw
  repeat' ((conv => whnf); (first | refine csp (fun h => ?_) (fun h => ?_) | refine cll (kinds_none nm hk) (fun _ => ?_) | refine cll (days_none nm hd) (fun _ => ?_) | (refine sda ?_ ?_; (focus (first | rfl | (simp; done)))) | refine sda ?_ ?_ | refine conk rfl ?_ | refine ldk rfl ?_ | refine mapk (fun x hx => ?_) | intro hl))
  all_goals conv => whnf
  all_goals try simp only [decide_eq_true_eq, decide_eq_false_iff_not, Bool.not_eq_true', Bool.not_eq_false', List.length_map, Int.not_lt, Int.not_le, Decidable.not_not, gt_iff_lt, ge_iff_le] at *
  all_goals exfalso
  all_goals subst h
  all_goals simp at hn
theorem call_none (nm : ByteArray) (hn : nm ∉ names19) (l : List (List V)) : Ret Tryz.prog F_logic_Call [.str nm, .row false l] (.tup [eV ⟨0, 0, e0⟩, .bool false]) := by
  refine r_logic_Call rfl fun hw => ?_
  clear hw
  repeat' ((conv => whnf); (first | refine csp (fun h => ?_) (fun h => ?_) | refine cll (find_none nm hn) (fun _ => ?_) | (refine sda ?_ ?_; (focus (first | rfl | (simp; done)))) | refine sda ?_ ?_ | refine conk rfl ?_ | refine ldk rfl ?_ | refine mapk (fun x hx => ?_) | intro hl))
  all_goals conv => whnf
abbrev Known19 (nm : ByteArray) (l : List Ar) : Prop := ∃ v, goodV v = true ∧ Ret Tryz.prog F_logic_Call [.str nm, .row false (l.map cA)] (.tup [eV v, .bool true])
theorem known_AND (l : List Ar) : Known19 ⟨#[65, 78, 68]⟩ l := by
  by_cases h : l.length = 0
  · exact ⟨badS 2, goodV_bad 2, l19_badF _ _ _ _ _ fnd_AND (.inl ⟨by decide, by rw [List.length_map]; exact h⟩)⟩
  · exact ⟨_, goodV_ite (goodV_bad _) (goodV_tru _), l19_callF _ _ _ _ _ _ fnd_AND (votes_1 F_logic_find_1 _ find_1 l) (.inl ⟨by decide, by rw [List.length_map]; exact h⟩)⟩
theorem known_OR (l : List Ar) : Known19 ⟨#[79, 82]⟩ l := by
  by_cases h : l.length = 0
  · exact ⟨badS 2, goodV_bad 2, l19_badF _ _ _ _ _ fnd_OR (.inl ⟨by decide, by rw [List.length_map]; exact h⟩)⟩
  · exact ⟨_, goodV_ite (goodV_bad _) (goodV_tru _), l19_callF _ _ _ _ _ _ fnd_OR (votes_1 F_logic_find_2 _ find_2 l) (.inl ⟨by decide, by rw [List.length_map]; exact h⟩)⟩
theorem known_XOR (l : List Ar) : Known19 ⟨#[88, 79, 82]⟩ l := by
  by_cases h : l.length = 0
  · exact ⟨badS 2, goodV_bad 2, l19_badF _ _ _ _ _ fnd_XOR (.inl ⟨by decide, by rw [List.length_map]; exact h⟩)⟩
  · exact ⟨_, goodV_ite (goodV_bad _) (goodV_tru _), l19_callF _ _ _ _ _ _ fnd_XOR (votes_1 F_logic_find_3 _ find_3 l) (.inl ⟨by decide, by rw [List.length_map]; exact h⟩)⟩
theorem known_NOT (l : List Ar) : Known19 ⟨#[78, 79, 84]⟩ l := by
  by_cases h : l.length = 1
  · match l, h with
    | [a], _ => exact ⟨_, goodV_ite (goodV_bad _) (goodV_tru _), l19_call0 _ _ _ _ _ fnd_NOT (find_4 a) (.inr rfl)⟩
  · exact ⟨badS 2, goodV_bad 2, l19_bad0 _ _ _ _ fnd_NOT (.inr ⟨by decide, by rw [List.length_map]; omega⟩)⟩
theorem known_TRUE (l : List Ar) : Known19 ⟨#[84, 82, 85, 69]⟩ l := by
  by_cases h : l.length = 0
  · match l, h with
    | [], _ => exact ⟨_, goodV_tru true, l19_callV _ _ _ _ _ _ fnd_TRUE (constant_1 _ _) (.inr rfl)⟩
  · exact ⟨badS 2, goodV_bad 2, l19_badV _ _ _ _ _ fnd_TRUE (.inr ⟨by decide, by rw [List.length_map]; omega⟩)⟩
theorem known_FALSE (l : List Ar) : Known19 ⟨#[70, 65, 76, 83, 69]⟩ l := by
  by_cases h : l.length = 0
  · match l, h with
    | [], _ => exact ⟨_, goodV_tru false, l19_callV _ _ _ _ _ _ fnd_FALSE (constant_1 _ _) (.inr rfl)⟩
  · exact ⟨badS 2, goodV_bad 2, l19_badV _ _ _ _ _ fnd_FALSE (.inr ⟨by decide, by rw [List.length_map]; omega⟩)⟩
theorem known_NA (l : List Ar) : Known19 ⟨#[78, 65]⟩ l := by
  by_cases h : l.length = 0
  · match l, h with
    | [], _ => exact ⟨_, goodV_bad 6, l19_callV _ _ _ _ _ _ fnd_NA (constant_1 _ _) (.inr rfl)⟩
  · exact ⟨badS 2, goodV_bad 2, l19_badV _ _ _ _ _ fnd_NA (.inr ⟨by decide, by rw [List.length_map]; omega⟩)⟩
theorem goodV_date (l : List Ar) : goodV (dateS l) = true := goodV_ite (goodV_bad _) (goodV_told _ _)
theorem known_DATE (l : List Ar) : Known19 ⟨#[68, 65, 84, 69]⟩ l := by
  by_cases h : l.length = 3
  · match l, h with
    | [a, b, c], _ => exact ⟨_, goodV_date _, l19_call0 _ _ _ _ _ fnd_DATE (find_5 a b c) (.inr rfl)⟩
  · exact ⟨badS 2, goodV_bad 2, l19_bad0 _ _ _ _ fnd_DATE (.inr ⟨by decide, by rw [List.length_map]; omega⟩)⟩
theorem known_EDATE (l : List Ar) : Known19 ⟨#[69, 68, 65, 84, 69]⟩ l := by
  by_cases h : l.length = 2
  · match l, h with
    | [a, b], _ => exact ⟨_, goodV_ite (goodV_bad _) (goodV_ite (goodV_bad _) (goodV_told _ _)), l19_callB _ _ _ _ _ _ fnd_EDATE (months1 a b _) (.inr rfl)⟩
  · exact ⟨badS 2, goodV_bad 2, l19_badB _ _ _ _ _ fnd_EDATE (.inr ⟨by decide, by rw [List.length_map]; omega⟩)⟩
theorem known_EOMONTH (l : List Ar) : Known19 ⟨#[69, 79, 77, 79, 78, 84, 72]⟩ l := by
  by_cases h : l.length = 2
  · match l, h with
    | [a, b], _ => exact ⟨_, goodV_ite (goodV_bad _) (goodV_ite (goodV_bad _) (goodV_told _ _)), l19_callB _ _ _ _ _ _ fnd_EOMONTH (months1 a b _) (.inr rfl)⟩
  · exact ⟨badS 2, goodV_bad 2, l19_badB _ _ _ _ _ fnd_EOMONTH (.inr ⟨by decide, by rw [List.length_map]; omega⟩)⟩
theorem known_DAYS (l : List Ar) : Known19 ⟨#[68, 65, 89, 83]⟩ l := by
  by_cases h : l.length = 2
  · match l, h with
    | [a, b], _ => exact ⟨_, goodV_ite (goodV_bad _) (goodV_ite (goodV_bad _) (goodV_wh _)), l19_call0 _ _ _ _ _ fnd_DAYS (find_6 a b) (.inr rfl)⟩
  · exact ⟨badS 2, goodV_bad 2, l19_bad0 _ _ _ _ fnd_DAYS (.inr ⟨by decide, by rw [List.length_map]; omega⟩)⟩
theorem known_DATEVALUE (l : List Ar) : Known19 ⟨#[68, 65, 84, 69, 86, 65, 76, 85, 69]⟩ l := by
  by_cases h : l.length = 1
  · match l, h with
    | [a], _ => exact ⟨_, goodV_ite (goodV_bad _) (goodV_ite (goodV_wh _) (goodV_bad _)), l19_call0 _ _ _ _ _ fnd_DATEVALUE (find_7 a) (.inr rfl)⟩
  · exact ⟨badS 2, goodV_bad 2, l19_bad0 _ _ _ _ fnd_DATEVALUE (.inr ⟨by decide, by rw [List.length_map]; omega⟩)⟩
theorem known_ISBLANK (l : List Ar) : Known19 ⟨#[73, 83, 66, 76, 65, 78, 75]⟩ l := by
  by_cases h : l.length = 1
  · match l, h with
    | [a], _ => exact ⟨_, goodV_tru _, l19_callK _ _ _ _ _ _ _ fnd_ISBLANK (is1_k _ a) (.inr rfl)⟩
  · exact ⟨badS 2, goodV_bad 2, l19_badK _ _ _ _ _ _ fnd_ISBLANK (.inr ⟨by decide, by rw [List.length_map]; omega⟩)⟩
theorem known_ISNUMBER (l : List Ar) : Known19 ⟨#[73, 83, 78, 85, 77, 66, 69, 82]⟩ l := by
  by_cases h : l.length = 1
  · match l, h with
    | [a], _ => exact ⟨_, goodV_tru _, l19_callK _ _ _ _ _ _ _ fnd_ISNUMBER (is1_k _ a) (.inr rfl)⟩
  · exact ⟨badS 2, goodV_bad 2, l19_badK _ _ _ _ _ _ fnd_ISNUMBER (.inr ⟨by decide, by rw [List.length_map]; omega⟩)⟩
theorem known_ISTEXT (l : List Ar) : Known19 ⟨#[73, 83, 84, 69, 88, 84]⟩ l := by
  by_cases h : l.length = 1
  · match l, h with
    | [a], _ => exact ⟨_, goodV_tru _, l19_callK _ _ _ _ _ _ _ fnd_ISTEXT (is1_k _ a) (.inr rfl)⟩
  · exact ⟨badS 2, goodV_bad 2, l19_badK _ _ _ _ _ _ fnd_ISTEXT (.inr ⟨by decide, by rw [List.length_map]; omega⟩)⟩
theorem known_ISLOGICAL (l : List Ar) : Known19 ⟨#[73, 83, 76, 79, 71, 73, 67, 65, 76]⟩ l := by
  by_cases h : l.length = 1
  · match l, h with
    | [a], _ => exact ⟨_, goodV_tru _, l19_callK _ _ _ _ _ _ _ fnd_ISLOGICAL (is1_k _ a) (.inr rfl)⟩
  · exact ⟨badS 2, goodV_bad 2, l19_badK _ _ _ _ _ _ fnd_ISLOGICAL (.inr ⟨by decide, by rw [List.length_map]; omega⟩)⟩
theorem known_ISERROR (l : List Ar) : Known19 ⟨#[73, 83, 69, 82, 82, 79, 82]⟩ l := by
  by_cases h : l.length = 1
  · match l, h with
    | [a], _ => exact ⟨_, goodV_tru _, l19_callK _ _ _ _ _ _ _ fnd_ISERROR (is1_k _ a) (.inr rfl)⟩
  · exact ⟨badS 2, goodV_bad 2, l19_badK _ _ _ _ _ _ fnd_ISERROR (.inr ⟨by decide, by rw [List.length_map]; omega⟩)⟩
theorem known_ISNONTEXT (l : List Ar) : Known19 ⟨#[73, 83, 78, 79, 78, 84, 69, 88, 84]⟩ l := by
  by_cases h : l.length = 1
  · match l, h with
    | [a], _ => exact ⟨_, goodV_tru _, l19_callF _ _ _ _ _ _ fnd_ISNONTEXT (is1_0 _ _ kinds_1 a) (.inr rfl)⟩
  · exact ⟨badS 2, goodV_bad 2, l19_badF _ _ _ _ _ fnd_ISNONTEXT (.inr ⟨by decide, by rw [List.length_map]; omega⟩)⟩
theorem known_ISNA (l : List Ar) : Known19 ⟨#[73, 83, 78, 65]⟩ l := by
  by_cases h : l.length = 1
  · match l, h with
    | [a], _ => exact ⟨_, goodV_tru _, l19_callF _ _ _ _ _ _ fnd_ISNA (is1_0 _ _ kinds_2 a) (.inr rfl)⟩
  · exact ⟨badS 2, goodV_bad 2, l19_badF _ _ _ _ _ fnd_ISNA (.inr ⟨by decide, by rw [List.length_map]; omega⟩)⟩
theorem known_ISERR (l : List Ar) : Known19 ⟨#[73, 83, 69, 82, 82]⟩ l := by
  by_cases h : l.length = 1
  · match l, h with
    | [a], _ => exact ⟨_, goodV_tru _, l19_callF _ _ _ _ _ _ fnd_ISERR (is1_0 _ _ kinds_3 a) (.inr rfl)⟩
  · exact ⟨badS 2, goodV_bad 2, l19_badF _ _ _ _ _ fnd_ISERR (.inr ⟨by decide, by rw [List.length_map]; omega⟩)⟩
theorem known_TYPE (l : List Ar) : Known19 ⟨#[84, 89, 80, 69]⟩ l := by
  by_cases h : l.length = 1
  · match l, h with
    | [a], _ => exact ⟨_, goodV_wh _, l19_call0 _ _ _ _ _ fnd_TYPE (kinds_4 a) (.inr rfl)⟩
  · exact ⟨badS 2, goodV_bad 2, l19_bad0 _ _ _ _ fnd_TYPE (.inr ⟨by decide, by rw [List.length_map]; omega⟩)⟩
theorem known_ERRORTYPE (l : List Ar) : Known19 ⟨#[69, 82, 82, 79, 82, 84, 89, 80, 69]⟩ l := by
  by_cases h : l.length = 1
  · match l, h with
    | [a], _ => exact ⟨_, goodV_ite (goodV_wh _) (goodV_bad _), l19_call0 _ _ _ _ _ fnd_ERRORTYPE (kinds_5 a) (.inr rfl)⟩
  · exact ⟨badS 2, goodV_bad 2, l19_bad0 _ _ _ _ fnd_ERRORTYPE (.inr ⟨by decide, by rw [List.length_map]; omega⟩)⟩
theorem known_YEAR (l : List Ar) : Known19 ⟨#[89, 69, 65, 82]⟩ l := by
  by_cases h : l.length = 1
  · match l, h with
    | [a], _ => exact ⟨_, goodV_ite (goodV_bad _) (goodV_wh _), l19_callK _ _ _ _ _ _ _ fnd_YEAR (of1_k 0 (fun d => whS (Lg.prt3 d).1) part1_0 a) (.inr rfl)⟩
  · exact ⟨badS 2, goodV_bad 2, l19_badK _ _ _ _ _ _ fnd_YEAR (.inr ⟨by decide, by rw [List.length_map]; omega⟩)⟩
theorem known_MONTH (l : List Ar) : Known19 ⟨#[77, 79, 78, 84, 72]⟩ l := by
  by_cases h : l.length = 1
  · match l, h with
    | [a], _ => exact ⟨_, goodV_ite (goodV_bad _) (goodV_wh _), l19_callK _ _ _ _ _ _ _ fnd_MONTH (of1_k 1 (fun d => whS (Lg.prt3 d).2.1) part1_1 a) (.inr rfl)⟩
  · exact ⟨badS 2, goodV_bad 2, l19_badK _ _ _ _ _ _ fnd_MONTH (.inr ⟨by decide, by rw [List.length_map]; omega⟩)⟩
theorem known_DAY (l : List Ar) : Known19 ⟨#[68, 65, 89]⟩ l := by
  by_cases h : l.length = 1
  · match l, h with
    | [a], _ => exact ⟨_, goodV_ite (goodV_bad _) (goodV_wh _), l19_callK _ _ _ _ _ _ _ fnd_DAY (of1_k 2 (fun d => whS (Lg.prt3 d).2.2) part1_2 a) (.inr rfl)⟩
  · exact ⟨badS 2, goodV_bad 2, l19_badK _ _ _ _ _ _ fnd_DAY (.inr ⟨by decide, by rw [List.length_map]; omega⟩)⟩
theorem known_WEEKDAY (l : List Ar) : Known19 ⟨#[87, 69, 69, 75, 68, 65, 89]⟩ l := by
  by_cases h : l.length = 1
  · match l, h with
    | [a], _ => exact ⟨_, goodV_ite (goodV_bad _) (goodV_wh _), l19_callF _ _ _ _ _ _ fnd_WEEKDAY (of1_0 _ (fun d => whS (d % 7 + 1)) days_1 a) (.inr rfl)⟩
  · exact ⟨badS 2, goodV_bad 2, l19_badF _ _ _ _ _ fnd_WEEKDAY (.inr ⟨by decide, by rw [List.length_map]; omega⟩)⟩
theorem known_WEEKNUM (l : List Ar) : Known19 ⟨#[87, 69, 69, 75, 78, 85, 77]⟩ l := by
  by_cases h : l.length = 1
  · match l, h with
    | [a], _ => exact ⟨_, goodV_ite (goodV_bad _) (goodV_wh _), l19_callF _ _ _ _ _ _ fnd_WEEKNUM (of1_0 _ (fun d => whS (wkS d)) days_2 a) (.inr rfl)⟩
  · exact ⟨badS 2, goodV_bad 2, l19_badF _ _ _ _ _ fnd_WEEKNUM (.inr ⟨by decide, by rw [List.length_map]; omega⟩)⟩
theorem known_DATETEXT (l : List Ar) : Known19 ⟨#[68, 65, 84, 69, 84, 69, 88, 84]⟩ l := by
  by_cases h : l.length = 1
  · match l, h with
    | [a], _ => exact ⟨_, goodV_ite (goodV_bad _) (goodV_dtx _), l19_callF _ _ _ _ _ _ fnd_DATETEXT (of1_0 _ (fun d => ⟨2, 0, dtx d⟩) days_3 a) (.inr rfl)⟩
  · exact ⟨badS 2, goodV_bad 2, l19_badF _ _ _ _ _ fnd_DATETEXT (.inr ⟨by decide, by rw [List.length_map]; omega⟩)⟩
theorem call_known (nm : ByteArray) (hn : nm ∈ names19) (l : List Ar) : Known19 nm l := by
  simp only [names19, List.mem_append, List.mem_cons, List.not_mem_nil, or_false, or_assoc] at hn
  rcases hn with rfl | rfl | rfl | rfl | rfl | rfl | rfl | rfl | rfl | rfl | rfl | rfl | rfl | rfl | rfl | rfl | rfl | rfl | rfl | rfl | rfl | rfl | rfl | rfl | rfl | rfl | rfl | rfl
  · exact known_AND l
  · exact known_OR l
  · exact known_XOR l
  · exact known_NOT l
  · exact known_TRUE l
  · exact known_FALSE l
  · exact known_NA l
  · exact known_DATE l
  · exact known_EDATE l
  · exact known_EOMONTH l
  · exact known_DAYS l
  · exact known_DATEVALUE l
  · exact known_ISBLANK l
  · exact known_ISNUMBER l
  · exact known_ISTEXT l
  · exact known_ISLOGICAL l
  · exact known_ISERROR l
  · exact known_ISNONTEXT l
  · exact known_ISNA l
  · exact known_ISERR l
  · exact known_TYPE l
  · exact known_ERRORTYPE l
  · exact known_YEAR l
  · exact known_MONTH l
  · exact known_DAY l
  · exact known_WEEKDAY l
  · exact known_WEEKNUM l
  · exact known_DATETEXT l
theorem logicFaults_ret (nm : ByteArray) (l : List Ar) (h1 : nm.size ≤ 140737488351232) (h2 : l.length * 48 ≤ 140737488351232 ∧ l.length ≤ 9223372036854775807 ∧ ∀ x ∈ l, (IntKind.i64.wrap x.rows = x.rows) ∧ ((IntKind.i64.wrap x.cols = x.cols) ∧ ((x.l.length * 32 ≤ 140737488351232 ∧ x.l.length ≤ 9223372036854775807 ∧ ∀ y ∈ x.l, ((IntKind.i64.wrap y.k = y.k) ∧ ((IntKind.i64.wrap y.n = y.n) ∧ (y.s.size ≤ 140737488351232)))) ∧ True))) : Ret Tryz.prog F_octavolaw19_LogicFaults [.str nm, .row false (l.map cA)] (.bool true) := by
  have hlt := law_light19 l
  by_cases hl : lightS l = true
  · rw [hl] at hlt
    by_cases hn : nm ∈ names19
    · obtain ⟨v, hv, hc⟩ := call_known nm hn l
      have hg := ref06_Good v
      rw [hv] at hg
      refine r_octavolaw19_LogicFaults rfl fun hw => ?_
      clear hw
      repeat' ((conv => whnf); (first | refine csp (fun h => ?_) (fun h => ?_) | refine cll (hlt) (fun _ => ?_) | refine cll (hc) (fun _ => ?_) | refine cll (hg) (fun _ => ?_) | refine cll (l19_lives) (fun _ => ?_) | (refine sda ?_ ?_; (focus (first | rfl | (simp; done)))) | refine sda ?_ ?_ | refine conk rfl ?_ | refine ldk rfl ?_ | refine mapk (fun x hx => ?_) | intro hl))
      all_goals conv => whnf
    · have hc := call_none nm hn (l.map cA)
      refine r_octavolaw19_LogicFaults rfl fun hw => ?_
      clear hw
      repeat' ((conv => whnf); (first | refine csp (fun h => ?_) (fun h => ?_) | refine cll (hlt) (fun _ => ?_) | refine cll (hc) (fun _ => ?_) | refine cll (l19_lives) (fun _ => ?_) | (refine sda ?_ ?_; (focus (first | rfl | (simp; done)))) | refine sda ?_ ?_ | refine conk rfl ?_ | refine ldk rfl ?_ | refine mapk (fun x hx => ?_) | intro hl))
      all_goals conv => whnf
  · rw [Bool.eq_false_iff.2 hl] at hlt
    refine r_octavolaw19_LogicFaults rfl fun hw => ?_
    clear hw
    repeat' ((conv => whnf); (first | refine csp (fun h => ?_) (fun h => ?_) | refine cll (hlt) (fun _ => ?_) | refine cll (l19_lives) (fun _ => ?_) | (refine sda ?_ ?_; (focus (first | rfl | (simp; done)))) | refine sda ?_ ?_ | refine conk rfl ?_ | refine ldk rfl ?_ | refine mapk (fun x hx => ?_) | intro hl))
    all_goals conv => whnf
end Go.Proofs.YtllceoncpgebpaaGreatDoor
