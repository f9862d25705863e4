/- What the functions answer, and the law. -/
import Derived.Test.YtkkfclpodgagdaaR
/- Values and areas as the program holds them; what the functions of layers 5, 6 and 17 answer of them. -/
set_option maxRecDepth 100000
set_option linter.all false
namespace Go.Proofs.Ytkkfclpodgagdaa
open Ab R
theorem cll {P : Program} {g : FuncId} {args : List V} {r : V} {K : V → Prop} (h : Ret P g args r) (k : wfV 8 r → K r) : ∃ r, Ret P g args r ∧ (wfV 8 r → K r) := ⟨r, h, k⟩
theorem cllo {P : Program} {g : FuncId} {args : List V} {r : V} {K : V → Prop} {B : Prop} (h : Ret P g args r) (k : wfV 8 r → K r) : (∃ r, Ret P g args r ∧ (wfV 8 r → K r)) ∨ B := .inl ⟨r, h, k⟩
theorem fLm {α : Type} {s : List O} {l : List α} {f : α → List Nat} {K : List O → Prop} (h : l.flatMap f = []) (k : K s) : fL fO (Ab.mark s (l.flatMap f)) K := by rw [fL_eq fO_eq, h]; exact k
theorem fVk {n : Nat} {v : V} {K : V → Prop} (h : K v) : fV n v K := by rw [fV_eq]; exact h
theorem fLVk {n : Nat} {l : List V} {K : List V → Prop} (h : K l) : fL (fV n) l K := by rw [fL_eq (fV_eq n)]; exact h
theorem fWk {n : Nat} {v : V} {K : V → Prop} (h : K v) : fW n v K := by rw [fW_eq]; exact h
theorem pickk : ∀ {cs : List Nat} {n : Nat} {K : Nat → Prop}, K n → pickN cs n K
  | [], _, _, h => h
  | c :: cs, n, K, h => by
    simp only [pickN]
    cases q : Nat.beq c n
    · exact pickk h
    · rw [Nat.eq_of_beq_eq_true q]; exact h
theorem pickk0 {cs : List Nat} {c n : Nat} {K : Nat → Prop} (h : K n) : pickN (c :: cs) n K := pickk h
/-- A state that has a name. -/
structure Sv (s : List O) : Prop where
theorem fLk {s : List O} {K : List O → Prop} (_ : Sv s) (h : K s) : fL fO s K := by rw [fL_eq fO_eq]; exact h
theorem nilk {p A B : Prop} (a : p → A) (b : B) : (p → A) ∧ B := ⟨a, b⟩
theorem sda {p q : Prop} (h : p) (k : q) : Sd p ∧ q := ⟨⟨h⟩, k⟩
theorem conk {els : List (List V)} {i : Nat} {c : List V} {K : List V → Prop} (h : els[i]? = some c) (k : K c) : ∀ cs, els[i]? = some cs → K cs := fun cs hcs => by
  rw [h] at hcs
  rw [← Option.some.inj hcs]
  exact k
theorem ldk {o : Option V} {w : V} {K : V → Prop} (h : o = some w) (k : K w) : ∀ v, o = some v → K v := fun v hv => by
  rw [h] at hv
  rw [← Option.some.inj hv]
  exact k
theorem mapk {α : Type} {l : List α} {f : α → List V} {i : Nat} {K : List V → Prop} (h : ∀ x, l[i]? = some x → K (f x)) : ∀ cs, (l.map f)[i]? = some cs → K cs := fun cs hcs => by
  rw [List.getElem?_map] at hcs
  cases hx : l[i]? with
  | none => rw [hx] at hcs; cases hcs
  | some x => rw [hx] at hcs; obtain rfl := Option.some.inj hcs; exact h x hx
theorem eqk {α : Type} {o : Option α} {w : α} {K : α → Prop} (h : o = some w) (k : K w) : ∀ v, o = some v → K v := fun v hv => by
  rw [h] at hv
  rw [← Option.some.inj hv]
  exact k
theorem leftk1 {es : List (Nat × V × V)} {seen : List Nat} {a : Nat × V × V} {K : Nat × V × V → Prop} (h : leftM es seen = [a]) (k : K a) : ∀ y, y ∈ leftM es seen → K y := fun y hy => by
  rw [h, List.mem_singleton] at hy
  rw [hy]
  exact k
theorem leftk0 {es : List (Nat × V × V)} {seen : List Nat} {K : Nat × V × V → Prop} (h : leftM es seen = []) : ∀ y, y ∈ leftM es seen → K y := fun y hy => by
  rw [h] at hy
  cases hy
theorem bytk {els : List (List V)} {l : List Int} {K : List Int → Prop} (h : bytesV els = some l) (k : K l) : (∀ l, bytesV els = some l → K l) ∧ Sd ((bytesV els).isSome = true) := by
  refine ⟨fun l' hl => ?_, ⟨by rw [h]; rfl⟩⟩
  rw [h] at hl
  rw [← Option.some.inj hl]
  exact k
theorem bytk8 {els : List (List V)} {c : List UInt8} {K : List Int → Prop} (h : els = c.map fun c => [V.int .u8 c.toNat]) (k : K (c.map fun c => (c.toNat : Int))) : (∀ l, bytesV els = some l → K l) ∧ Sd ((bytesV els).isSome = true) :=
  bytk (h ▸ bytesV_map (fun c : UInt8 => (c.toNat : Int)) c) k
structure GV where
  k : Int
  n : Int
  s : ByteArray
abbrev cV (v : GV) : List V := [.int .i64 v.k, .int .i64 v.n, .str v.s]
abbrev eV (v : GV) : V := .agg (cV v)
structure Ar where
  rows : Int
  cols : Int
  l : List GV
  many : Bool
abbrev cA (a : Ar) : List V := [.int .i64 a.rows, .int .i64 a.cols, .row false (a.l.map cV), .bool a.many]
abbrev eA (a : Ar) : V := .agg (cA a)
abbrev e0 : ByteArray := ⟨#[]⟩
def badS (n : Int) : GV := ⟨4, if n < 1 ∨ n > 8 then 2 else n, e0⟩
theorem value_Bad (n : Int) : Ret Try.prog F_value_Bad [.int .i64 n] (eV (badS n)) := by
  refine r_value_Bad rfl fun _ => ?_
  ((conv => whnf); refine csp (fun h => ?_) (fun h => ?_))
  · conv => whnf
    simp_all [badS]
  · ((conv => whnf); refine csp (fun h => ?_) (fun h => ?_))
    · conv => whnf
      simp_all [badS]
    · conv => whnf
      simp_all [badS]
      omega
def goodN (n : Int) : Bool := decide (-100000000000 ≤ n ∧ n ≤ 100000000000)
theorem num_Good (n : Int) : Ret Try.prog F_num_Good [.int .i64 n] (.bool (goodN n)) := by
  refine r_num_Good rfl fun _ => ?_
  ((conv => whnf); refine csp (fun h => ?_) (fun h => ?_))
  · conv => whnf
    simp_all [goodN]
  · conv => whnf
    simp_all [goodN]
    try omega
def ofS (n : Int) (ok : Bool) : GV := if ok && goodN n then ⟨1, n, e0⟩ else badS 5
theorem value_Of (n : Int) (ok : Bool) : Ret Try.prog F_value_Of [.int .i64 n, .bool ok] (eV (ofS n ok)) := by
  refine r_value_Of rfl fun _ => ?_
  ((conv => whnf); refine csp (fun h => ?_) (fun h => ?_))
  · (first | refine cllo (num_Good _) (fun _ => ?_) | refine cll (num_Good _) (fun _ => ?_))
    ((conv => whnf); refine csp (fun h => ?_) (fun h => ?_))
    · conv => whnf
      simp_all [ofS]
    · (first | refine cllo (value_Bad _) (fun _ => ?_) | refine cll (value_Bad _) (fun _ => ?_))
      conv => whnf
      simp_all [ofS]
  · (first | refine cllo (value_Bad _) (fun _ => ?_) | refine cll (value_Bad _) (fun _ => ?_))
    conv => whnf
    simp_all [ofS]
/-- The program's own forms of a value. -/
def ownS (v : GV) : V :=
  if v.k = 0 then .iface 76 (.agg []) else if v.k = 1 then .iface 77 (.int .i64 v.n) else if v.k = 2 then .iface 79 (.str v.s)
  else if v.k = 3 then .iface 78 (.bool (!decide (v.n = 0))) else if v.k = 4 then .iface 82 (.int .i64 v.n) else .nilI
theorem value_own (v : GV) : Ret Try.prog F_value_own [eV v] (ownS v) := by
  refine r_value_own rfl fun _ => ?_
  ((conv => whnf); refine csp (fun h => ?_) (fun h => ?_))
  · conv => whnf
    simp_all [ownS]
  ((conv => whnf); refine csp (fun h => ?_) (fun h => ?_))
  · conv => whnf
    simp_all [ownS]
  ((conv => whnf); refine csp (fun h => ?_) (fun h => ?_))
  · conv => whnf
    simp_all [ownS]
  ((conv => whnf); refine csp (fun h => ?_) (fun h => ?_))
  · conv => whnf
    simp_all [ownS]
  ((conv => whnf); refine csp (fun h => ?_) (fun h => ?_))
  · conv => whnf
    simp_all [ownS]
  conv => whnf
  simp_all [ownS]
def goodV (v : GV) : Bool :=
  if v.k = 0 then decide (v.n = 0 ∧ v.s = e0) else if v.k = 1 then goodN v.n && decide (v.s = e0) else if v.k = 2 then decide (v.n = 0 ∧ v.s.size ≤ 255)
  else if v.k = 3 then decide ((v.n = 0 ∨ v.n = 1) ∧ v.s = e0) else if v.k = 4 then decide (1 ≤ v.n ∧ v.n ≤ 8 ∧ v.s = e0) else false
theorem own0 {v : GV} (h : v.k = 0) : Ret Try.prog F_value_own [eV v] (.iface 76 (.agg [])) := by have := value_own v; simpa [ownS, h] using this
theorem own1 {v : GV} (h : v.k = 1) : Ret Try.prog F_value_own [eV v] (.iface 77 (.int .i64 v.n)) := by have := value_own v; simpa [ownS, h] using this
theorem own2 {v : GV} (h : v.k = 2) : Ret Try.prog F_value_own [eV v] (.iface 79 (.str v.s)) := by have := value_own v; simpa [ownS, h] using this
theorem own3 {v : GV} (h : v.k = 3) : Ret Try.prog F_value_own [eV v] (.iface 78 (.bool (!decide (v.n = 0)))) := by have := value_own v; simpa [ownS, h] using this
theorem own4 {v : GV} (h : v.k = 4) : Ret Try.prog F_value_own [eV v] (.iface 82 (.int .i64 v.n)) := by have := value_own v; simpa [ownS, h] using this
theorem own5 {v : GV} (h : ¬ v.k = 0) (h1 : ¬ v.k = 1) (h2 : ¬ v.k = 2) (h3 : ¬ v.k = 3) (h4 : ¬ v.k = 4) : Ret Try.prog F_value_own [eV v] .nilI := by have := value_own v; simpa [ownS, h, h1, h2, h3, h4] using this
theorem value_Good (v : GV) : Ret Try.prog F_value_Good [eV v] (.bool (goodV v)) := by
  obtain ⟨k, n, s⟩ := v
  by_cases h0 : k = 0
  · subst h0
    refine r_value_Good rfl fun _ => ?_
    repeat' ((conv => whnf); (first | refine csp (fun h => ?_) (fun h => ?_) | refine cllo (own0 rfl) (fun _ => ?_) | refine cll (own0 rfl) (fun _ => ?_) | refine cllo (num_Good _) (fun _ => ?_) | refine cll (num_Good _) (fun _ => ?_) | (refine sda ?_ ?_; (focus (first | rfl | (simp; done)))) | refine sda ?_ ?_ | refine conk rfl ?_ | refine ldk rfl ?_ | refine mapk (fun x hx => ?_) | exact ⟨rfl, rfl⟩ | refine nilk (fun h => ?_) ?_ | intro hl))
    all_goals conv => whnf
    all_goals simp_all [goodV]
  by_cases h1 : k = 1
  · subst h1
    refine r_value_Good rfl fun _ => ?_
    repeat' ((conv => whnf); (first | refine csp (fun h => ?_) (fun h => ?_) | refine cllo (own1 rfl) (fun _ => ?_) | refine cll (own1 rfl) (fun _ => ?_) | refine cllo (num_Good _) (fun _ => ?_) | refine cll (num_Good _) (fun _ => ?_) | (refine sda ?_ ?_; (focus (first | rfl | (simp; done)))) | refine sda ?_ ?_ | refine conk rfl ?_ | refine ldk rfl ?_ | refine mapk (fun x hx => ?_) | exact ⟨rfl, rfl⟩ | refine nilk (fun h => ?_) ?_ | intro hl))
    all_goals conv => whnf
    all_goals simp_all [goodV]
  by_cases h2 : k = 2
  · subst h2
    refine r_value_Good rfl fun _ => ?_
    repeat' ((conv => whnf); (first | refine csp (fun h => ?_) (fun h => ?_) | refine cllo (own2 rfl) (fun _ => ?_) | refine cll (own2 rfl) (fun _ => ?_) | refine cllo (num_Good _) (fun _ => ?_) | refine cll (num_Good _) (fun _ => ?_) | (refine sda ?_ ?_; (focus (first | rfl | (simp; done)))) | refine sda ?_ ?_ | refine conk rfl ?_ | refine ldk rfl ?_ | refine mapk (fun x hx => ?_) | exact ⟨rfl, rfl⟩ | refine nilk (fun h => ?_) ?_ | intro hl))
    all_goals conv => whnf
    all_goals simp_all [goodV]
    all_goals omega
  by_cases h3 : k = 3
  · subst h3
    refine r_value_Good rfl fun _ => ?_
    repeat' ((conv => whnf); (first | refine csp (fun h => ?_) (fun h => ?_) | refine cllo (own3 rfl) (fun _ => ?_) | refine cll (own3 rfl) (fun _ => ?_) | refine cllo (num_Good _) (fun _ => ?_) | refine cll (num_Good _) (fun _ => ?_) | (refine sda ?_ ?_; (focus (first | rfl | (simp; done)))) | refine sda ?_ ?_ | refine conk rfl ?_ | refine ldk rfl ?_ | refine mapk (fun x hx => ?_) | exact ⟨rfl, rfl⟩ | refine nilk (fun h => ?_) ?_ | intro hl))
    all_goals conv => whnf
    all_goals simp_all [goodV]
  by_cases h4 : k = 4
  · subst h4
    refine r_value_Good rfl fun _ => ?_
    repeat' ((conv => whnf); (first | refine csp (fun h => ?_) (fun h => ?_) | refine cllo (own4 rfl) (fun _ => ?_) | refine cll (own4 rfl) (fun _ => ?_) | refine cllo (num_Good _) (fun _ => ?_) | refine cll (num_Good _) (fun _ => ?_) | (refine sda ?_ ?_; (focus (first | rfl | (simp; done)))) | refine sda ?_ ?_ | refine conk rfl ?_ | refine ldk rfl ?_ | refine mapk (fun x hx => ?_) | exact ⟨rfl, rfl⟩ | refine nilk (fun h => ?_) ?_ | intro hl))
    all_goals conv => whnf
    all_goals simp_all [goodV]
    all_goals omega
  · refine r_value_Good rfl fun _ => ?_
    repeat' ((conv => whnf); (first | refine csp (fun h => ?_) (fun h => ?_) | refine cllo (own5 h0 h1 h2 h3 h4) (fun _ => ?_) | refine cll (own5 h0 h1 h2 h3 h4) (fun _ => ?_) | (refine sda ?_ ?_; (focus (first | rfl | (simp; done)))) | refine sda ?_ ?_ | refine conk rfl ?_ | refine ldk rfl ?_ | refine mapk (fun x hx => ?_) | exact ⟨rfl, rfl⟩ | refine nilk (fun h => ?_) ?_ | intro hl))
    all_goals conv => whnf
    all_goals simp_all [goodV]
/-- The number of a value, or the error's; a text is not asked. -/
def toNumS (v : GV) : Int × Int := if v.k = 0 then (0, 0) else if v.k = 1 then (v.n, 0) else if v.k = 3 then (if v.n = 0 then 0 else 10000, 0) else if v.k = 4 then (0, v.n) else (0, 2)
theorem value_ToNum (v : GV) (h2 : ¬ v.k = 2) : Ret Try.prog F_value_ToNum [eV v] (.tup [.int .i64 (toNumS v).1, .int .i64 (toNumS v).2]) := by
  obtain ⟨k, n, s⟩ := v
  by_cases h0 : k = 0
  · subst h0
    refine r_value_ToNum rfl fun _ => ?_
    repeat' ((conv => whnf); (first | refine csp (fun h => ?_) (fun h => ?_) | refine cllo (own0 rfl) (fun _ => ?_) | refine cll (own0 rfl) (fun _ => ?_) | (refine sda ?_ ?_; (focus (first | rfl | (simp; done)))) | refine sda ?_ ?_ | refine conk rfl ?_ | refine ldk rfl ?_ | refine mapk (fun x hx => ?_) | exact ⟨rfl, rfl⟩ | refine nilk (fun h => ?_) ?_ | intro hl))
    all_goals conv => whnf
    all_goals simp_all [toNumS]
  by_cases h1 : k = 1
  · subst h1
    refine r_value_ToNum rfl fun _ => ?_
    repeat' ((conv => whnf); (first | refine csp (fun h => ?_) (fun h => ?_) | refine cllo (own1 rfl) (fun _ => ?_) | refine cll (own1 rfl) (fun _ => ?_) | (refine sda ?_ ?_; (focus (first | rfl | (simp; done)))) | refine sda ?_ ?_ | refine conk rfl ?_ | refine ldk rfl ?_ | refine mapk (fun x hx => ?_) | exact ⟨rfl, rfl⟩ | refine nilk (fun h => ?_) ?_ | intro hl))
    all_goals conv => whnf
    all_goals simp_all [toNumS]
  by_cases h3 : k = 3
  · subst h3
    refine r_value_ToNum rfl fun _ => ?_
    repeat' ((conv => whnf); (first | refine csp (fun h => ?_) (fun h => ?_) | refine cllo (own3 rfl) (fun _ => ?_) | refine cll (own3 rfl) (fun _ => ?_) | (refine sda ?_ ?_; (focus (first | rfl | (simp; done)))) | refine sda ?_ ?_ | refine conk rfl ?_ | refine ldk rfl ?_ | refine mapk (fun x hx => ?_) | exact ⟨rfl, rfl⟩ | refine nilk (fun h => ?_) ?_ | intro hl))
    all_goals conv => whnf
    all_goals simp_all [toNumS]
  by_cases h4 : k = 4
  · subst h4
    refine r_value_ToNum rfl fun _ => ?_
    repeat' ((conv => whnf); (first | refine csp (fun h => ?_) (fun h => ?_) | refine cllo (own4 rfl) (fun _ => ?_) | refine cll (own4 rfl) (fun _ => ?_) | (refine sda ?_ ?_; (focus (first | rfl | (simp; done)))) | refine sda ?_ ?_ | refine conk rfl ?_ | refine ldk rfl ?_ | refine mapk (fun x hx => ?_) | exact ⟨rfl, rfl⟩ | refine nilk (fun h => ?_) ?_ | intro hl))
    all_goals conv => whnf
    all_goals simp_all [toNumS]
  · refine r_value_ToNum rfl fun _ => ?_
    repeat' ((conv => whnf); (first | refine csp (fun h => ?_) (fun h => ?_) | refine cllo (own5 h0 h1 h2 h3 h4) (fun _ => ?_) | refine cll (own5 h0 h1 h2 h3 h4) (fun _ => ?_) | (refine sda ?_ ?_; (focus (first | rfl | (simp; done)))) | refine sda ?_ ?_ | refine conk rfl ?_ | refine ldk rfl ?_ | refine mapk (fun x hx => ?_) | exact ⟨rfl, rfl⟩ | refine nilk (fun h => ?_) ?_ | intro hl))
    all_goals conv => whnf
    all_goals simp_all [toNumS]
def goodA (a : Ar) : Bool := decide (1 ≤ a.rows ∧ 1 ≤ a.cols ∧ a.rows ≤ 4096 ∧ a.cols ≤ 4096 ∧ (a.l.length : Int) = a.rows * a.cols) && a.l.all goodV
theorem take_good {l : List GV} {i : Nat} {x : GV} {p : GV → Bool} (hx : l[i]? = some x) (h : (l.take i).all p = true) (hp : p x = true) : (l.take (i + 1)).all p = true := by
  rw [List.take_add_one, hx]
  simp only [Option.toList, List.all_append, h, List.all_cons, hp, List.all_nil, Bool.and_self]
theorem w64 {n : Int} (h : -9223372036854775808 ≤ n ∧ n ≤ 9223372036854775807) : IntKind.i64.wrap n = n := (wrap_iff .i64 n).2 (by simp only [kLo, kHi]; omega)
theorem mulb {r c : Int} (h1 : 1 ≤ r) (h2 : r ≤ 4096) (h3 : 1 ≤ c) (h4 : c ≤ 4096) : 1 ≤ r * c ∧ r * c ≤ 16777216 :=
  ⟨by have := Int.mul_le_mul h1 h3 (by omega) (by omega); omega, by have := Int.mul_le_mul h2 h4 (by omega) (by omega); omega⟩
theorem goodA_no {a : Ar} {i : Nat} {x : GV} (hx : a.l[i]? = some x) (h : goodV x = false) : goodA a = false := by
  unfold goodA
  rw [Bool.and_eq_false_iff]
  right
  rw [List.all_eq_false]
  exact ⟨x, List.mem_of_getElem? hx, by simp [h]⟩
theorem goodA_bad {a : Ar} (h : ¬ (1 ≤ a.rows ∧ 1 ≤ a.cols ∧ a.rows ≤ 4096 ∧ a.cols ≤ 4096 ∧ (a.l.length : Int) = a.rows * a.cols)) : goodA a = false := by
  unfold goodA
  rw [decide_eq_false h, Bool.false_and]
theorem goodA_yes {a : Ar} (h : 1 ≤ a.rows ∧ 1 ≤ a.cols ∧ a.rows ≤ 4096 ∧ a.cols ≤ 4096 ∧ (a.l.length : Int) = a.rows * a.cols) (hl : a.l.all goodV = true) : goodA a = true := by
  unfold goodA
  rw [decide_eq_true h, hl, Bool.true_and]
theorem maths_Good (a : Ar) : Ret Try.prog F_maths_Good [eA a] (.bool (goodA a)) := by
  refine r_maths_Good rfl fun hw => ?_
  clear hw
  repeat' ((conv => whnf); (first | refine csp (fun h => ?_) (fun h => ?_) | (refine sda ?_ ?_; (focus (first | rfl | (simp; done)))) | refine sda ?_ ?_ | refine conk rfl ?_ | refine ldk rfl ?_ | refine mapk (fun x hx => ?_) | exact ⟨rfl, rfl⟩ | refine nilk (fun h => ?_) ?_ | intro hl))
  rotate_right
  · try simp only [decide_eq_true_eq, decide_eq_false_iff_not, Bool.not_eq_true', Bool.not_eq_false', List.length_map, Int.not_lt, Int.not_le, Decidable.not_not, gt_iff_lt, ge_iff_le] at *
    have hm := mulb (r := a.rows) (c := a.cols) (by omega) (by omega) (by omega) (by omega)
    have hL : (a.l.length : Int) = a.rows * a.cols := by
      have := w64 (n := a.rows * a.cols) (by omega)
      omega
    refine .inl ⟨Int, [35, 36, 37], [], fun i => [(35, .row false (a.l.map cV)), (36, .int .i64 a.l.length), (37, .int .i64 i)], fun _ => [], fun i => 0 ≤ i ∧ i ≤ a.l.length ∧ (a.l.take i.toNat).all goodV = true, fun i => (a.l.length - i).toNat, rfl, ?_, fun i hi => ?_⟩
    · exact ⟨0, rfl, rfl, by simp⟩
    · obtain ⟨hi0, hi1, hi2⟩ := hi
      repeat' ((conv => whnf); (first | refine csp (fun h => ?_) (fun h => ?_) | refine cllo (value_Good _) (fun _ => ?_) | refine cll (value_Good _) (fun _ => ?_) | (refine sda ?_ ?_; (focus (first | rfl | (simp; done)))) | refine sda ?_ ?_ | refine conk rfl ?_ | refine ldk rfl ?_ | refine mapk (fun x hx => ?_) | exact ⟨rfl, rfl⟩ | refine nilk (fun h => ?_) ?_ | intro hl))
      · try simp only [decide_eq_true_eq, decide_eq_false_iff_not, Bool.not_eq_true', Bool.not_eq_false', List.length_map, Int.not_lt, Int.not_le, Decidable.not_not, gt_iff_lt, ge_iff_le] at *
        omega
      · conv => whnf
        rw [goodA_no hx (by simpa using h)]
      · conv => whnf
        try simp only [decide_eq_true_eq, decide_eq_false_iff_not, Bool.not_eq_true', Bool.not_eq_false', List.length_map, Int.not_lt, Int.not_le, Decidable.not_not, gt_iff_lt, ge_iff_le] at *
        have hw1 := w64 (n := i + 1) (by omega)
        refine ⟨i + 1, by rw [hw1], by trivial, ⟨by omega, by omega, ?_⟩, by omega⟩
        rw [show (i + 1).toNat = i.toNat + 1 by omega]
        exact take_good hx hi2 h
      · conv => whnf
        try simp only [decide_eq_true_eq, decide_eq_false_iff_not, Bool.not_eq_true', Bool.not_eq_false', List.length_map, Int.not_lt, Int.not_le, Decidable.not_not, gt_iff_lt, ge_iff_le] at *
        rw [goodA_yes (by omega)]
        have : a.l.take i.toNat = a.l := List.take_of_length_le (by omega)
        rwa [this] at hi2
  all_goals conv => whnf
  all_goals try simp only [decide_eq_true_eq, decide_eq_false_iff_not, Bool.not_eq_true', Bool.not_eq_false', List.length_map, Int.not_lt, Int.not_le, Decidable.not_not, gt_iff_lt, ge_iff_le] at *
  · rw [goodA_bad (by omega)]
  · rw [goodA_bad (by omega)]
  · rw [goodA_bad (by omega)]
  · rw [goodA_bad (by omega)]
  · have hm := mulb (r := a.rows) (c := a.cols) (by omega) (by omega) (by omega) (by omega)
    rw [w64 (by omega)] at h
    rw [goodA_bad (by omega)]
end Go.Proofs.Ytkkfclpodgagdaa

/- One value of an area, whole numbers. -/
set_option maxRecDepth 100000
set_option linter.all false
namespace Go.Proofs.Ytkkfclpodgagdaa
open Ab R
def oneS (a : Ar) : GV := if a.l.length = 1 ∧ goodA a = true then a.l.headD ⟨0, 0, e0⟩ else badS 2
theorem maths_One (a : Ar) : Ret Try.prog F_maths_One [eA a] (eV (oneS a)) := by
  refine r_maths_One rfl fun hw => ?_
  clear hw
  repeat' ((conv => whnf); (first | refine csp (fun h => ?_) (fun h => ?_) | refine cllo (maths_Good _) (fun _ => ?_) | refine cll (maths_Good _) (fun _ => ?_) | refine cllo (value_Bad _) (fun _ => ?_) | refine cll (value_Bad _) (fun _ => ?_) | (refine sda ?_ ?_; (focus (first | rfl | (simp; done)))) | refine sda ?_ ?_ | refine conk rfl ?_ | refine ldk rfl ?_ | refine mapk (fun x hx => ?_) | exact ⟨rfl, rfl⟩ | refine nilk (fun h => ?_) ?_ | intro hl))
  all_goals conv => whnf
  all_goals try simp only [decide_eq_true_eq, decide_eq_false_iff_not, Bool.not_eq_true', Bool.not_eq_false', List.length_map, Int.not_lt, Int.not_le, Decidable.not_not, gt_iff_lt, ge_iff_le] at *
  · rw [oneS, if_neg (fun q => by omega)]
  · rw [oneS, if_neg (by rw [h]; simp)]
  · omega
  · obtain ⟨r, c, l, m⟩ := a
    cases l with
    | nil => cases hx
    | cons y l =>
      cases hx
      rw [oneS, if_pos ⟨by omega, h⟩]
      rfl
def wholeS (n : Int) : Int × Bool := if goodN n = true ∧ n.tmod 10000 = 0 then (n.tdiv 10000, true) else (0, false)
theorem tdivb {n : Int} (h : goodN n = true) : -10000000 ≤ n.tdiv 10000 ∧ n.tdiv 10000 ≤ 10000000 := by
  simp only [goodN, decide_eq_true_eq] at h
  rw [Int.tdiv_eq_ediv]
  split
  · omega
  · simp only [show Int.sign 10000 = 1 from rfl]
    omega
theorem i64b {i : Int} (h : wfV 8 (.int .i64 i)) : -9223372036854775808 ≤ i ∧ i ≤ 9223372036854775807 := by
  have := (wrap_iff .i64 i).1 h
  exact this
theorem num_Whole (n : Int) : Ret Try.prog F_num_Whole [.int .i64 n] (.tup [.int .i64 (wholeS n).1, .bool (wholeS n).2]) := by
  refine r_num_Whole rfl fun hw => ?_
  clear hw
  repeat' ((conv => whnf); (first | refine csp (fun h => ?_) (fun h => ?_) | refine cllo (num_Good _) (fun _ => ?_) | refine cll (num_Good _) (fun _ => ?_) | (refine sda ?_ ?_; (focus (first | rfl | (simp; done)))) | refine sda ?_ ?_ | refine conk rfl ?_ | refine ldk rfl ?_ | refine mapk (fun x hx => ?_) | exact ⟨rfl, rfl⟩ | refine nilk (fun h => ?_) ?_ | intro hl))
  all_goals conv => whnf
  all_goals try simp only [decide_eq_true_eq, decide_eq_false_iff_not, Bool.not_eq_true', Bool.not_eq_false', List.length_map, Int.not_lt, Int.not_le, Decidable.not_not, gt_iff_lt, ge_iff_le] at *
  · rw [wholeS, if_neg (by simp [h])]
  · rw [wholeS, if_neg (fun q => h q.2)]
  · have h1 : goodN n = true := by assumption
    have := tdivb h1
    rw [wholeS, if_pos ⟨h1, h⟩, w64 (by omega)]
theorem goodA_out {a : Ar} (h : goodA a = true) : (1 ≤ a.rows ∧ 1 ≤ a.cols ∧ a.rows ≤ 4096 ∧ a.cols ≤ 4096 ∧ (a.l.length : Int) = a.rows * a.cols) ∧ a.l.all goodV = true := by
  unfold goodA at h
  simp only [Bool.and_eq_true, decide_eq_true_eq] at h
  exact h
theorem bytesb {a b : Nat} (h1 : a ≤ 11) (h2 : Nat.ble b 1000 = true) : Nat.le (a * b) 140737488355327 := by
  have := Nat.le_of_ble_eq_true h2
  have := Nat.mul_le_mul h1 this
  show a * b ≤ 140737488355327
  omega
end Go.Proofs.Ytkkfclpodgagdaa

/- What layer 21's helpers answer. -/
set_option maxRecDepth 100000
set_option linter.all false
namespace Go.Proofs.Ytkkfclpodgagdaa
open Ab R
theorem lookup_whole (k : Int) : Ret Try.prog F_lookup_whole [.int .i64 k] (eV (ofS (IntKind.i64.wrap (k * 10000)) true)) := by
  refine r_lookup_whole rfl fun hw => ?_
  repeat' ((conv => whnf); (first | refine csp (fun h => ?_) (fun h => ?_) | refine cllo (value_Of _ _) (fun _ => ?_) | refine cll (value_Of _ _) (fun _ => ?_) | (refine sda ?_ ?_; (focus (first | rfl | (simp; done)))) | refine sda ?_ ?_ | refine conk rfl ?_ | refine ldk rfl ?_ | refine mapk (fun x hx => ?_) | exact ⟨rfl, rfl⟩ | refine nilk (fun h => ?_) ?_ | intro hl))
  all_goals conv => whnf
/-- A whole number of an argument, or the error's. -/
def intsS (v : GV) : Int × Int := if 0 < (toNumS v).2 then (0, (toNumS v).2) else if (wholeS (toNumS v).1).2 = true then ((wholeS (toNumS v).1).1, 0) else (0, 5)
theorem lookup_ints (a : Ar) (h2 : ¬ (oneS a).k = 2) : Ret Try.prog F_lookup_ints [eA a] (.tup [.int .i64 (intsS (oneS a)).1, .int .i64 (intsS (oneS a)).2]) := by
  refine r_lookup_ints rfl fun hw => ?_
  clear hw
  repeat' ((conv => whnf); (first | refine csp (fun h => ?_) (fun h => ?_) | refine cllo (maths_One _) (fun _ => ?_) | refine cll (maths_One _) (fun _ => ?_) | refine cllo (value_ToNum _ h2) (fun _ => ?_) | refine cll (value_ToNum _ h2) (fun _ => ?_) | refine cllo (num_Whole _) (fun _ => ?_) | refine cll (num_Whole _) (fun _ => ?_) | (refine sda ?_ ?_; (focus (first | rfl | (simp; done)))) | refine sda ?_ ?_ | refine conk rfl ?_ | refine ldk rfl ?_ | refine mapk (fun x hx => ?_) | exact ⟨rfl, rfl⟩ | refine nilk (fun h => ?_) ?_ | intro hl))
  all_goals conv => whnf
  all_goals try simp only [decide_eq_true_eq, decide_eq_false_iff_not, Bool.not_eq_true', Bool.not_eq_false', List.length_map, Int.not_lt, Int.not_le, Decidable.not_not, gt_iff_lt, ge_iff_le] at *
  · rw [intsS, if_pos h]
  · rw [intsS, if_neg (by omega), if_neg (by simp [h])]
  · rw [intsS, if_neg (by omega), if_pos h]
/-- What a grid is in memory: the area. -/
theorem grid_line (a : Ar) : Ret Try.prog F_lookup_grid_line [eA a] (.bool (decide (a.rows = 1 ∨ a.cols = 1))) := by
  refine r_lookup_grid_line rfl fun hw => ?_
  clear hw
  repeat' ((conv => whnf); (first | refine csp (fun h => ?_) (fun h => ?_) | (refine sda ?_ ?_; (focus (first | rfl | (simp; done)))) | refine sda ?_ ?_ | refine conk rfl ?_ | refine ldk rfl ?_ | refine mapk (fun x hx => ?_) | exact ⟨rfl, rfl⟩ | refine nilk (fun h => ?_) ?_ | intro hl))
  all_goals conv => whnf
  all_goals simp_all
theorem grid_nth (a : Ar) (i : Int) (v : GV) (hi : 1 ≤ i) (hv : a.l[(i - 1).toNat]? = some v) : Ret Try.prog F_lookup_grid_nth [eA a, .int .i64 i] (eV v) := by
  refine r_lookup_grid_nth rfl fun hw => ?_
  have hb := i64b (hw (.int .i64 i) (by simp))
  clear hw
  have hlt := (List.getElem?_eq_some_iff.1 hv).1
  have hw1 := w64 (n := i - 1) (by omega)
  repeat' ((conv => whnf); (first | refine csp (fun h => ?_) (fun h => ?_) | (refine sda ?_ ?_; (focus (first | rfl | (simp; done)))) | refine sda ?_ ?_ | refine conk rfl ?_ | refine ldk rfl ?_ | refine mapk (fun x hx => ?_) | exact ⟨rfl, rfl⟩ | refine nilk (fun h => ?_) ?_ | intro hl))
  all_goals conv => whnf
  all_goals try simp only [decide_eq_true_eq, decide_eq_false_iff_not, Bool.not_eq_true', Bool.not_eq_false', List.length_map, Int.not_lt, Int.not_le, Decidable.not_not, gt_iff_lt, ge_iff_le] at *
  · rw [hw1]
    omega
  · rw [hw1] at hx
    rw [hx] at hv
    rw [Option.some.inj hv]
def atS (a : Ar) (r c : Int) : GV := if r < 1 ∨ r > a.rows ∨ c < 1 ∨ c > a.cols then badS 3 else (a.l[((r - 1) * a.cols + c - 1).toNat]?).getD ⟨0, 0, e0⟩
theorem at_in {r c m n : Int} (h1 : 1 ≤ r) (h2 : r ≤ m) (h3 : 1 ≤ c) (h4 : c ≤ n) (h5 : m ≤ 4096) (h6 : n ≤ 4096) : 0 ≤ (r - 1) * n ∧ (r - 1) * n + n ≤ m * n ∧ m * n ≤ 16777216 := by
  refine ⟨Int.mul_nonneg (by omega) (by omega), ?_, (mulb (by omega) h5 (by omega) h6).2⟩
  have : (r - 1) * n + n = r * n := by rw [Int.sub_mul]; omega
  rw [this]
  exact Int.mul_le_mul_of_nonneg_right h2 (by omega)
theorem grid_at (a : Ar) (r c : Int) (hg : goodA a = true) : Ret Try.prog F_lookup_grid_at [eA a, .int .i64 r, .int .i64 c] (eV (atS a r c)) := by
  refine r_lookup_grid_at rfl fun hw => ?_
  clear hw
  obtain ⟨⟨g1, g2, g3, g4, g5⟩, _⟩ := goodA_out hg
  repeat' ((conv => whnf); (first | refine csp (fun h => ?_) (fun h => ?_) | refine cllo (value_Bad _) (fun _ => ?_) | refine cll (value_Bad _) (fun _ => ?_) | (refine sda ?_ ?_; (focus (first | rfl | (simp; done)))) | refine sda ?_ ?_ | refine conk rfl ?_ | refine ldk rfl ?_ | refine mapk (fun x hx => ?_) | exact ⟨rfl, rfl⟩ | refine nilk (fun h => ?_) ?_ | intro hl))
  all_goals conv => whnf
  all_goals try simp only [decide_eq_true_eq, decide_eq_false_iff_not, Bool.not_eq_true', Bool.not_eq_false', List.length_map, Int.not_lt, Int.not_le, Decidable.not_not, gt_iff_lt, ge_iff_le] at *
  · rw [atS, if_pos (by omega)]
  · rw [atS, if_pos (by omega)]
  · rw [atS, if_pos (by omega)]
  · rw [atS, if_pos (by omega)]
  · have := at_in (r := r) (c := c) (m := a.rows) (n := a.cols) (by omega) (by omega) (by omega) (by omega) g3 g4
    rw [w64 (n := r - 1) (by omega), w64 (n := (r - 1) * a.cols) (by omega), w64 (n := (r - 1) * a.cols + c) (by omega), w64 (by omega)]
    omega
  · have := at_in (r := r) (c := c) (m := a.rows) (n := a.cols) (by omega) (by omega) (by omega) (by omega) g3 g4
    rw [w64 (n := r - 1) (by omega), w64 (n := (r - 1) * a.cols) (by omega), w64 (n := (r - 1) * a.cols + c) (by omega), w64 (by omega)] at hx
    rw [atS, if_neg (by omega), hx]
    rfl
theorem take_all {l : List Ar} {n : Nat} {x : Ar} {p : Ar → Bool} (hx : l[n]? = some x) (h : (l.take n).all p = true) (hp : p x = true) : (l.take (n + 1)).all p = true := by
  rw [List.take_add_one, hx]
  simp only [Option.toList, List.all_append, h, List.all_cons, hp, List.all_nil, Bool.and_self]
theorem all_no {l : List Ar} {n : Nat} {x : Ar} {p : Ar → Bool} (hx : l[n]? = some x) (hp : p x = false) : l.all p = false := by
  rw [List.all_eq_false]
  exact ⟨x, List.mem_of_getElem? hx, by simp [hp]⟩
def goodsS (l : List Ar) : List Ar := if l.all goodA = true then l else []
theorem goods_no {l : List Ar} {n : Nat} {x : Ar} (hx : l[n]? = some x) (hp : goodA x = false) : goodsS l = [] := by
  rw [goodsS, if_neg (by rw [all_no hx hp]; decide)]
theorem lookup_goods (l : List Ar) (hs : l.length ≤ 10) : Ret Try.prog F_lookup_goods [.row false (l.map cA)] (.tup [.row false ((goodsS l).map cA), .bool (l.all goodA)]) := by
  refine r_lookup_goods rfl fun hw => ?_
  clear hw
  repeat' ((conv => whnf); (first | refine csp (fun h => ?_) (fun h => ?_) | (refine sda ?_ ?_; (focus (first | rfl | (simp; done)))) | refine sda ?_ ?_ | refine conk rfl ?_ | refine ldk rfl ?_ | refine mapk (fun x hx => ?_) | exact ⟨rfl, rfl⟩ | refine nilk (fun h => ?_) ?_ | intro hl))
  refine .inl ⟨Nat, [4, 7, 8, 9], [2], fun n => [(4, match n with | 0 => .row true [] | n + 1 => .sl 0 0 (n + 1)), (7, .row false (l.map cA)), (8, .int .i64 (l.map cA).length), (9, .int .i64 n)], fun n => [match n with | 0 => .gone | n + 1 => .arr true 4 ((l.take (n + 1)).map cA)], fun n => n ≤ l.length ∧ (l.take n).all goodA = true, fun n => l.length - n, rfl, ?_, fun n hn => ?_⟩
  · exact ⟨0, rfl, rfl, by simp⟩
  · obtain ⟨hn1, hn2⟩ := hn
    cases n with
    | zero =>
      repeat' ((conv => whnf); (first | refine csp (fun h => ?_) (fun h => ?_) | refine cllo (maths_Good _) (fun _ => ?_) | refine cll (maths_Good _) (fun _ => ?_) | (refine sda ?_ ?_; (focus (first | rfl | (simp; done)))) | refine sda ?_ ?_ | refine conk rfl ?_ | refine ldk rfl ?_ | refine mapk (fun x hx => ?_) | exact ⟨rfl, rfl⟩ | refine nilk (fun h => ?_) ?_ | intro hl))
      · try simp only [decide_eq_true_eq, decide_eq_false_iff_not, Bool.not_eq_true', Bool.not_eq_false', List.length_map, Int.not_lt, Int.not_le, Decidable.not_not, gt_iff_lt, ge_iff_le] at *
        omega
      · conv => whnf
        rw [goods_no hx (by simpa using h), all_no hx (by simpa using h)]
        rfl
      · have hl : _ ∈ [cA x] := hl
        rw [List.mem_singleton.1 hl]
        rfl
      · exact Nat.le_of_ble_eq_true (by kernel_rfl)
      · conv => whnf
        have hx' : l[0]? = some x := hx
        have h1 : l.take 1 = [x] := by rw [List.take_add_one, hx']; rfl
        have hlt := (List.getElem?_eq_some_iff.1 hx').1
        refine ⟨1, rfl, ?_, ⟨by omega, ?_⟩, by simp only; omega⟩
        · show [O.arr true 4 [cA x]] = [O.arr true 4 ((l.take 1).map cA)]
          rw [h1]
          rfl
        · exact take_all hx' hn2 (by simpa using h)
      · conv => whnf
        try simp only [decide_eq_true_eq, decide_eq_false_iff_not, Bool.not_eq_true', Bool.not_eq_false', List.length_map, Int.not_lt, Int.not_le, Decidable.not_not, gt_iff_lt, ge_iff_le] at *
        obtain rfl : l = [] := List.eq_nil_of_length_eq_zero (by omega)
        rfl
    | succ n =>
      repeat' ((conv => whnf); (first | refine csp (fun h => ?_) (fun h => ?_) | refine cllo (maths_Good _) (fun _ => ?_) | refine cll (maths_Good _) (fun _ => ?_) | (refine sda ?_ ?_; (focus (first | rfl | (simp; done)))) | refine sda ?_ ?_ | refine conk rfl ?_ | refine ldk rfl ?_ | refine mapk (fun x hx => ?_) | exact ⟨rfl, rfl⟩ | refine nilk (fun h => ?_) ?_ | intro hl))
      · try simp only [decide_eq_true_eq, decide_eq_false_iff_not, Bool.not_eq_true', Bool.not_eq_false', List.length_map, Int.not_lt, Int.not_le, Decidable.not_not, gt_iff_lt, ge_iff_le] at *
        omega
      · conv => whnf
        rw [goods_no hx (by simpa using h), all_no hx (by simpa using h)]
        rfl
      · conv => whnf
        rw [List.length_map, List.length_take]
        omega
      · have hl : _ ∈ [cA x] := hl
        rw [List.mem_singleton.1 hl]
        rfl
      · rename_i e he c
        have he : e ∈ [cA x] := he
        rw [List.mem_singleton.1 he] at hl
        simp only [cA, List.mem_cons, List.not_mem_nil, or_false] at hl
        rcases hl with rfl | rfl | rfl | rfl <;> rfl
      · refine bytesb ?_ (by kernel_rfl)
        show (List.map cA (List.take (n + 1) l)).length + 1 ≤ 11
        rw [List.length_map, List.length_take]
        omega
      · conv => whnf
        have hx' : l[n + 1]? = some x := hx
        have hlt := (List.getElem?_eq_some_iff.1 hx').1
        have hln : (List.map cA (List.take (n + 1) l)).length = n + 1 := by rw [List.length_map, List.length_take]; omega
        have h1 : l.take (n + 1 + 1) = l.take (n + 1) ++ [x] := by rw [List.take_add_one (i := n + 1), hx']; rfl
        refine ⟨n + 2, ?_, ?_, ⟨by omega, take_all hx' hn2 (by simpa using h)⟩, by simp only; omega⟩
        · show [(4, V.sl 0 0 ((List.map cA (List.take (n + 1) l)).length + 1)), (7, V.row false (List.map cA l)), (8, V.int IntKind.i64 (List.map cA l).length), (9, V.int IntKind.i64 (IntKind.i64.wrap (((n + 1 : Nat) : Int) + 1)))] = [(4, V.sl 0 0 (n + 1 + 1)), (7, V.row false (List.map cA l)), (8, V.int IntKind.i64 (List.map cA l).length), (9, V.int IntKind.i64 ((n + 1 + 1 : Nat) : Int))]
          rw [hln, w64 (by omega)]
          rfl
        · show [O.arr true 4 (List.map cA (List.take (n + 1) l) ++ [cA x])] = [O.arr true 4 ((l.take (n + 1 + 1)).map cA)]
          rw [h1, List.map_append]
          rfl
      · conv => whnf
        try simp only [decide_eq_true_eq, decide_eq_false_iff_not, Bool.not_eq_true', Bool.not_eq_false', List.length_map, Int.not_lt, Int.not_le, Decidable.not_not, gt_iff_lt, ge_iff_le] at *
        have hn3 : n + 1 = l.length := by omega
        have h1 : l.take (n + 1) = l := by rw [hn3]; exact List.take_length
        rw [h1] at hn2 ⊢
        rw [hn2, goodsS, if_pos hn2, List.drop_zero, List.take_of_length_le (by rw [List.length_map]; omega)]
end Go.Proofs.Ytkkfclpodgagdaa

/- Layer 21's search. -/
set_option maxRecDepth 100000
set_option linter.all false
namespace Go.Proofs.Ytkkfclpodgagdaa
open Ab R
theorem value_order (b : Bool) : Ret Try.prog F_value_order [.bool b] (.int .i64 (if b then -1 else 1)) := by
  refine r_value_order rfl fun hw => ?_
  clear hw
  repeat' ((conv => whnf); (first | refine csp (fun h => ?_) (fun h => ?_) | (refine sda ?_ ?_; (focus (first | rfl | (simp; done)))) | refine sda ?_ ?_ | refine conk rfl ?_ | refine ldk rfl ?_ | refine mapk (fun x hx => ?_) | exact ⟨rfl, rfl⟩ | refine nilk (fun h => ?_) ?_ | intro hl))
  all_goals conv => whnf
  all_goals simp_all
theorem cmp_num1 (v w : GV) (h : v.k = 1) : Ret Try.prog F_value_Cmp_1 [eV v, eV w] (.tup [.int .i64 1, .int .i64 v.n, .str e0]) := by
  obtain ⟨k, n, s⟩ := v
  simp only at h
  subst h
  refine r_value_Cmp_1 rfl fun hw => ?_
  clear hw
  repeat' ((conv => whnf); (first | refine csp (fun h => ?_) (fun h => ?_) | (refine sda ?_ ?_; (focus (first | rfl | (simp; done)))) | refine sda ?_ ?_ | refine conk rfl ?_ | refine ldk rfl ?_ | refine mapk (fun x hx => ?_) | exact ⟨rfl, rfl⟩ | refine nilk (fun h => ?_) ?_ | intro hl))
  all_goals conv => whnf
def cmpI (k x : Int) : Int := if k < x then -1 else if k = x then 0 else 1
theorem cmp_num (v w : GV) (h : v.k = 1) (h2 : w.k = 1) : Ret Try.prog F_value_Cmp [eV v, eV w] (.int .i64 (cmpI v.n w.n)) := by
  unfold cmpI
  refine r_value_Cmp rfl fun hw => ?_
  clear hw
  repeat' ((conv => whnf); (first | refine csp (fun h => ?_) (fun h => ?_) | refine cllo (cmp_num1 v w h) (fun _ => ?_) | refine cll (cmp_num1 v w h) (fun _ => ?_) | refine cllo (cmp_num1 w v h2) (fun _ => ?_) | refine cll (cmp_num1 w v h2) (fun _ => ?_) | refine cllo (value_order _) (fun _ => ?_) | refine cll (value_order _) (fun _ => ?_) | (refine sda ?_ ?_; (focus (first | rfl | (simp; done)))) | refine sda ?_ ?_ | refine conk rfl ?_ | refine ldk rfl ?_ | refine mapk (fun x hx => ?_) | exact ⟨rfl, rfl⟩ | refine nilk (fun h => ?_) ?_ | intro hl))
  all_goals conv => whnf
  all_goals try simp only [decide_eq_true_eq, decide_eq_false_iff_not, Bool.not_eq_true', Bool.not_eq_false', List.length_map, Int.not_lt, Int.not_le, Decidable.not_not, gt_iff_lt, ge_iff_le] at *
  · split <;> simp_all
  · rw [if_neg (by omega), if_pos h]
theorem lookup_lines (how : Int) : Ret Try.prog F_lookup_lines [.int .i64 how] (.fn F_lookup_lines_1 [] [.elem [.int .i64 how]]) := by
  refine r_lookup_lines rfl fun hw => ?_
  clear hw
  repeat' ((conv => whnf); (first | refine csp (fun h => ?_) (fun h => ?_) | (refine sda ?_ ?_; (focus (first | rfl | (simp; done)))) | refine sda ?_ ?_ | refine conk rfl ?_ | refine ldk rfl ?_ | refine mapk (fun x hx => ?_) | exact ⟨rfl, rfl⟩ | refine nilk (fun h => ?_) ?_ | intro hl))
  all_goals conv => whnf
theorem law_one (v : GV) : Ret Try.prog F_octavolaw21_one [eV v] (eA ⟨1, 1, [v], false⟩) := by
  refine r_octavolaw21_one rfl fun hw => ?_
  clear hw
  repeat' ((conv => whnf); (first | refine csp (fun h => ?_) (fun h => ?_) | (refine sda ?_ ?_; (focus (first | rfl | (simp; done)))) | refine sda ?_ ?_ | refine conk rfl ?_ | refine ldk rfl ?_ | refine mapk (fun x hx => ?_) | exact ⟨rfl, rfl⟩ | refine nilk (fun h => ?_) ?_ | intro hl))
  all_goals conv => whnf
  all_goals rfl
theorem law_number (n : Int) : Ret Try.prog F_octavolaw21_number [.int .i64 n] (eA ⟨1, 1, [⟨1, n, e0⟩], false⟩) := by
  refine r_octavolaw21_number rfl fun hw => ?_
  clear hw
  repeat' ((conv => whnf); (first | refine csp (fun h => ?_) (fun h => ?_) | refine cllo (law_one ⟨1, n, e0⟩) (fun _ => ?_) | refine cll (law_one ⟨1, n, e0⟩) (fun _ => ?_) | (refine sda ?_ ?_; (focus (first | rfl | (simp; done)))) | refine sda ?_ ?_ | refine conk rfl ?_ | refine ldk rfl ?_ | refine mapk (fun x hx => ?_) | exact ⟨rfl, rfl⟩ | refine nilk (fun h => ?_) ?_ | intro hl))
  all_goals conv => whnf
/-- The place of a number among numbers. -/
def scanS (how x : Int) : List GV → Int → Int → Int × Int
  | [], _, found => if found = 0 then (0, 6) else (found, 0)
  | k :: ks, i, found => if how = 0 ∧ cmpI k.n x = 0 then (i, 0) else if cmpI k.n x * how > 0 then (if found = 0 then (0, 6) else (found, 0)) else scanS how x ks (i + 1) (if how = 0 then found else i)
theorem match_nth (x g : Ar) (n how X : Int) (s : ByteArray) (hx : oneS x = ⟨1, X, s⟩) (hn : n = g.l.length) (hk : ∀ k ∈ g.l, k.k = 1) (hh : -1 ≤ how ∧ how ≤ 1) (hb : n ≤ 16777216) :
    Ret Try.prog F_lookup_match [eA x, .int .i64 n, .fn F_lookup_grid_nth [eA g] [], .int .i64 how] (.tup [.int .i64 (scanS how X g.l 1 0).1, .int .i64 (scanS how X g.l 1 0).2]) := by
  have h1 := maths_One x
  rw [hx] at h1
  refine r_lookup_match rfl fun hw => ?_
  clear hw
  repeat' ((conv => whnf); (first | refine csp (fun h => ?_) (fun h => ?_) | refine cllo (h1) (fun _ => ?_) | refine cll (h1) (fun _ => ?_) | (refine sda ?_ ?_; (focus (first | rfl | (simp; done)))) | refine sda ?_ ?_ | refine conk rfl ?_ | refine ldk rfl ?_ | refine mapk (fun x hx => ?_) | exact ⟨rfl, rfl⟩ | refine nilk (fun h => ?_) ?_ | intro hl))
  conv => whnf
  refine .inl ⟨Int, [1, 2, 3, 10, 11, 12], [0, 1], fun i => [(1, .int .i64 n), (2, .fn F_lookup_grid_nth [eA g] []), (3, .int .i64 how), (10, .ptr 1 0), (11, .int .i64 (if how = 0 then 0 else i - 1)), (12, .int .i64 i)], fun _ => [.box true (cA x), .box true [.int .i64 1, .int .i64 X, .str s]], fun i => 1 ≤ i ∧ i ≤ n + 1 ∧ scanS how X (g.l.drop (i - 1).toNat) i (if how = 0 then 0 else i - 1) = scanS how X g.l 1 0, fun i => (n + 1 - i).toNat, rfl, ?_, fun i hi => ?_⟩
  · conv => whnf
    refine ⟨1, ?_, rfl, by omega, by omega, ?_⟩
    · split <;> rfl
    · split <;> rfl
  · obtain ⟨hi1, hi2, hi3⟩ := hi
    rcases Int.lt_or_le n i with hlt | hle
    · refine csp_f (decide_eq_false (by omega)) ?_
      repeat' ((conv => whnf); (first | refine csp (fun h => ?_) (fun h => ?_) | (refine sda ?_ ?_; (focus (first | rfl | (simp; done)))) | refine sda ?_ ?_ | refine conk rfl ?_ | refine ldk rfl ?_ | refine mapk (fun x hx => ?_) | exact ⟨rfl, rfl⟩ | refine nilk (fun h => ?_) ?_ | intro hl))
      all_goals conv => whnf
      all_goals try simp only [decide_eq_true_eq, decide_eq_false_iff_not, Bool.not_eq_true', Bool.not_eq_false', List.length_map, Int.not_lt, Int.not_le, Decidable.not_not, gt_iff_lt, ge_iff_le] at *
      all_goals rw [List.drop_eq_nil_of_le (by omega), scanS] at hi3
      · rw [if_pos h] at hi3
        rw [← hi3]
      · rw [if_neg h] at hi3
        rw [← hi3]
    · refine csp_t (decide_eq_true (by omega)) ?_
      have hil : (i - 1).toNat < g.l.length := by omega
      have hv : g.l[(i - 1).toNat]? = some g.l[(i - 1).toNat] := List.getElem?_eq_getElem hil
      have hvk := hk _ (List.getElem_mem hil)
      have hcons : g.l.drop (i - 1).toNat = g.l[(i - 1).toNat] :: g.l.drop ((i - 1).toNat + 1) := List.drop_eq_getElem_cons hil
      generalize g.l[(i - 1).toNat] = v at hv hvk hcons
      conv => whnf
      (first | refine cllo (grid_nth g i v hi1 hv) (fun _ => ?_) | refine cll (grid_nth g i v hi1 hv) (fun _ => ?_))
      refine csp_f (by rw [hvk]; rfl) ?_
      obtain ⟨c, hc, hcr⟩ : ∃ c, c = cmpI v.n X ∧ Ret Try.prog F_value_Cmp [eV v, eV ⟨1, X, s⟩] (.int .i64 c) := ⟨_, rfl, cmp_num v ⟨1, X, s⟩ hvk rfl⟩
      have hc3 : c = -1 ∨ c = 0 ∨ c = 1 := by
        rw [hc]
        unfold cmpI
        split
        · exact .inl rfl
        · split
          · exact .inr (.inl rfl)
          · exact .inr (.inr rfl)
      have hwr : IntKind.i64.wrap (c * how) = c * how := w64 (by rcases hc3 with h | h | h <;> rw [h] <;> omega)
      have hz : how = 0 → c * how = 0 := fun h => by rw [h, Int.mul_zero]
      rw [hcons, scanS, ← hc, show (i - 1).toNat + 1 = (i + 1 - 1).toNat by omega] at hi3
      conv => whnf
      (first | refine cllo (hcr) (fun _ => ?_) | refine cll (hcr) (fun _ => ?_))
      clear hc hcr hx h1 hk
      repeat' ((conv => whnf); (first | refine csp (fun h => ?_) (fun h => ?_) | (refine sda ?_ ?_; (focus (first | rfl | (simp; done)))) | refine sda ?_ ?_ | refine conk rfl ?_ | refine ldk rfl ?_ | refine mapk (fun x hx => ?_) | exact ⟨rfl, rfl⟩ | refine nilk (fun h => ?_) ?_ | intro hl))
      all_goals conv => whnf
      all_goals try simp only [decide_eq_true_eq, decide_eq_false_iff_not, Bool.not_eq_true', Bool.not_eq_false', List.length_map, Int.not_lt, Int.not_le, Decidable.not_not, gt_iff_lt, ge_iff_le] at *
      all_goals try rw [hwr] at *
      · rw [if_pos ⟨by assumption, h⟩] at hi3
        rw [← hi3]
      · exfalso
        omega
      · exfalso
        omega
      · exact absurd (by assumption) h
      · rw [if_neg (by omega), if_neg (by omega), if_pos h] at hi3
        refine ⟨i + 1, ?_, by trivial, ⟨by omega, by omega, ?_⟩, by omega⟩
        · rw [if_pos h, if_pos h, w64 (by omega)]
        · rw [← hi3, if_pos h, if_pos h]
      · rw [if_neg (by omega), if_pos (by omega), if_pos h] at hi3
        rw [← hi3]
      · rw [if_neg (by omega), if_pos (by omega), if_neg h] at hi3
        rw [← hi3]
      · rw [if_neg (by omega), if_neg (by omega), if_neg h] at hi3
        refine ⟨i + 1, ?_, by trivial, ⟨by omega, by omega, ?_⟩, by omega⟩
        · rw [if_neg h, w64 (by omega), show i + 1 - 1 = i by omega]
        · rw [← hi3, if_neg h, show i + 1 - 1 = i by omega]
      · exact absurd h (by assumption)
end Go.Proofs.Ytkkfclpodgagdaa

/- Layer 21's functions of numbers. -/
set_option maxRecDepth 100000
set_option linter.all false
namespace Go.Proofs.Ytkkfclpodgagdaa
open Ab R
theorem goods1 (a : Ar) (h : goodA a = true) : Ret Try.prog F_lookup_goods [.row false [cA a]] (.tup [.row false [cA a], .bool true]) := by
  have := lookup_goods [a] (by simp)
  simpa [goodsS, h] using this
theorem goods2 (a b : Ar) (h : goodA a = true) (h2 : goodA b = true) : Ret Try.prog F_lookup_goods [.row false [cA a, cA b]] (.tup [.row false [cA a, cA b], .bool true]) := by
  have := lookup_goods [a, b] (by simp)
  simpa [goodsS, h, h2] using this
/-- MATCH of a number among numbers in one line, the nearest. -/
theorem place2 (x g : Ar) (X : Int) (s : ByteArray) (hx : oneS x = ⟨1, X, s⟩) (hg : goodA g = true) (hl : g.rows = 1 ∨ g.cols = 1) (hk : ∀ k ∈ g.l, k.k = 1) :
    Ret Try.prog F_lookup_place [.row false [cA x, cA g]] (eV (let m := scanS 1 X g.l 1 0; if 0 < m.2 then badS m.2 else ofS (IntKind.i64.wrap (m.1 * 10000)) true)) := by
  obtain ⟨⟨g1, g2, g3, g4, g5⟩, _⟩ := goodA_out hg
  have hm := mulb g1 g3 g2 g4
  have hgl := grid_line g
  rw [decide_eq_true hl] at hgl
  have hmt := match_nth x g (g.l.map cV).length 1 X s hx (by rw [List.length_map]) hk (by omega) (by rw [List.length_map]; omega)
  refine r_lookup_place rfl fun hw => ?_
  clear hw
  repeat' ((conv => whnf); (first | refine csp (fun h => ?_) (fun h => ?_) | refine cllo (goods1 g hg) (fun _ => ?_) | refine cll (goods1 g hg) (fun _ => ?_) | refine cllo (hgl) (fun _ => ?_) | refine cll (hgl) (fun _ => ?_) | refine cllo (hmt) (fun _ => ?_) | refine cll (hmt) (fun _ => ?_) | refine cllo (value_Bad _) (fun _ => ?_) | refine cll (value_Bad _) (fun _ => ?_) | refine cllo (lookup_whole _) (fun _ => ?_) | refine cll (lookup_whole _) (fun _ => ?_) | (refine sda ?_ ?_; (focus (first | rfl | (simp; done)))) | refine sda ?_ ?_ | refine conk rfl ?_ | refine ldk rfl ?_ | refine mapk (fun x hx => ?_) | exact ⟨rfl, rfl⟩ | refine nilk (fun h => ?_) ?_ | intro hl))
  all_goals conv => whnf
  all_goals try simp only [decide_eq_true_eq, decide_eq_false_iff_not, Bool.not_eq_true', Bool.not_eq_false', List.length_map, Int.not_lt, Int.not_le, Decidable.not_not, gt_iff_lt, ge_iff_le] at *
  · show eV _ = eV _
    rw [if_pos h]
  · show eV _ = eV _
    rw [if_neg (by omega)]
theorem place3 (x g w : Ar) (X : Int) (s : ByteArray) (hx : oneS x = ⟨1, X, s⟩) (hg : goodA g = true) (hl : g.rows = 1 ∨ g.cols = 1) (hk : ∀ k ∈ g.l, k.k = 1) (hw3 : ¬ (oneS w).k = 2) (hi : intsS (oneS w) = (0, 0)) :
    Ret Try.prog F_lookup_place [.row false [cA x, cA g, cA w]] (eV (let m := scanS 0 X g.l 1 0; if 0 < m.2 then badS m.2 else ofS (IntKind.i64.wrap (m.1 * 10000)) true)) := by
  obtain ⟨⟨g1, g2, g3, g4, g5⟩, _⟩ := goodA_out hg
  have hm := mulb g1 g3 g2 g4
  have hgl := grid_line g
  rw [decide_eq_true hl] at hgl
  have hmt := match_nth x g (g.l.map cV).length 0 X s hx (by rw [List.length_map]) hk (by omega) (by rw [List.length_map]; omega)
  have hit := lookup_ints w hw3
  rw [hi] at hit
  refine r_lookup_place rfl fun hw => ?_
  clear hw
  repeat' ((conv => whnf); (first | refine csp (fun h => ?_) (fun h => ?_) | refine cllo (goods1 g hg) (fun _ => ?_) | refine cll (goods1 g hg) (fun _ => ?_) | refine cllo (hgl) (fun _ => ?_) | refine cll (hgl) (fun _ => ?_) | refine cllo (hmt) (fun _ => ?_) | refine cll (hmt) (fun _ => ?_) | refine cllo (hit) (fun _ => ?_) | refine cll (hit) (fun _ => ?_) | refine cllo (value_Bad _) (fun _ => ?_) | refine cll (value_Bad _) (fun _ => ?_) | refine cllo (lookup_whole _) (fun _ => ?_) | refine cll (lookup_whole _) (fun _ => ?_) | (refine sda ?_ ?_; (focus (first | rfl | (simp; done)))) | refine sda ?_ ?_ | refine conk rfl ?_ | refine ldk rfl ?_ | refine mapk (fun x hx => ?_) | exact ⟨rfl, rfl⟩ | refine nilk (fun h => ?_) ?_ | intro hl))
  all_goals conv => whnf
  all_goals try simp only [decide_eq_true_eq, decide_eq_false_iff_not, Bool.not_eq_true', Bool.not_eq_false', List.length_map, Int.not_lt, Int.not_le, Decidable.not_not, gt_iff_lt, ge_iff_le] at *
  · show eV _ = eV _
    rw [if_pos h]
  · show eV _ = eV _
    rw [if_neg (by omega)]
theorem index2 (g w : Ar) (hg : goodA g = true) (hr : g.rows = 1) (hw2 : ¬ (oneS w).k = 2) (k : Int) (hi : intsS (oneS w) = (k, 0)) :
    Ret Try.prog F_lookup_index [.row false [cA g, cA w]] (eV (atS g 1 k)) := by
  have hit := lookup_ints w hw2
  rw [hi] at hit
  refine r_lookup_index rfl fun hw => ?_
  clear hw
  repeat' ((conv => whnf); (first | refine csp (fun h => ?_) (fun h => ?_) | refine cllo (goods1 g hg) (fun _ => ?_) | refine cll (goods1 g hg) (fun _ => ?_) | refine cllo (hit) (fun _ => ?_) | refine cll (hit) (fun _ => ?_) | refine cllo (value_Bad _) (fun _ => ?_) | refine cll (value_Bad _) (fun _ => ?_) | refine cllo (grid_at g 1 k hg) (fun _ => ?_) | refine cll (grid_at g 1 k hg) (fun _ => ?_) | (refine sda ?_ ?_; (focus (first | rfl | (simp; done)))) | refine sda ?_ ?_ | refine conk rfl ?_ | refine ldk rfl ?_ | refine mapk (fun x hx => ?_) | exact ⟨rfl, rfl⟩ | refine nilk (fun h => ?_) ?_ | intro hl))
  all_goals conv => whnf
  all_goals try simp only [decide_eq_true_eq, decide_eq_false_iff_not, Bool.not_eq_true', Bool.not_eq_false', List.length_map, Int.not_lt, Int.not_le, Decidable.not_not, gt_iff_lt, ge_iff_le] at *
  exact absurd hr h
theorem lines3 (x g w : Ar) (X : Int) (s : ByteArray) (hx : oneS x = ⟨1, X, s⟩) (hg : goodA g = true) (hl : g.rows = 1 ∨ g.cols = 1) (hk : ∀ k ∈ g.l, k.k = 1) (v : GV) (hf : (scanS 1 X g.l 1 0).2 = 0) (hf1 : 1 ≤ (scanS 1 X g.l 1 0).1) (hv : g.l[((scanS 1 X g.l 1 0).1 - 1).toNat]? = some v) :
    Ret Try.prog F_lookup_lines_1 [.row false [cA x, cA g, cA g], .elem [.int .i64 1]] (eV v) := by
  obtain ⟨⟨g1, g2, g3, g4, g5⟩, _⟩ := goodA_out hg
  have hm := mulb g1 g3 g2 g4
  have hgl := grid_line g
  rw [decide_eq_true hl] at hgl
  have hmt := match_nth x g (g.l.map cV).length 1 X s hx (by rw [List.length_map]) hk (by omega) (by rw [List.length_map]; omega)
  rw [hf] at hmt
  have hnt := grid_nth g _ v hf1 hv
  refine r_lookup_lines_1 rfl fun hw => ?_
  clear hw
  repeat' ((conv => whnf); (first | refine csp (fun h => ?_) (fun h => ?_) | refine cllo (goods2 g g hg hg) (fun _ => ?_) | refine cll (goods2 g g hg hg) (fun _ => ?_) | refine cllo (hgl) (fun _ => ?_) | refine cll (hgl) (fun _ => ?_) | refine cllo (hmt) (fun _ => ?_) | refine cll (hmt) (fun _ => ?_) | refine cllo (hnt) (fun _ => ?_) | refine cll (hnt) (fun _ => ?_) | refine cllo (value_Bad _) (fun _ => ?_) | refine cll (value_Bad _) (fun _ => ?_) | (refine sda ?_ ?_; (focus (first | rfl | (simp; done)))) | refine sda ?_ ?_ | refine conk rfl ?_ | refine ldk rfl ?_ | refine mapk (fun x hx => ?_) | exact ⟨rfl, rfl⟩ | refine nilk (fun h => ?_) ?_ | intro hl))
  all_goals conv => whnf
  all_goals try simp only [decide_eq_true_eq, decide_eq_false_iff_not, Bool.not_eq_true', Bool.not_eq_false', List.length_map, Int.not_lt, Int.not_le, Decidable.not_not, gt_iff_lt, ge_iff_le] at *
  exact absurd trivial h
theorem find_MATCH : Ret Try.prog F_lookup_find [.str ⟨#[77, 65, 84, 67, 72]⟩] (.tup [.fn F_lookup_place [] [], .int .i64 2, .int .i64 3]) := by
  refine r_lookup_find rfl fun hw => ?_
  clear hw
  repeat' ((conv => whnf); (first | refine csp (fun h => ?_) (fun h => ?_) | (refine sda ?_ ?_; (focus (first | rfl | (simp; done)))) | refine sda ?_ ?_ | refine conk rfl ?_ | refine ldk rfl ?_ | refine mapk (fun x hx => ?_) | exact ⟨rfl, rfl⟩ | refine nilk (fun h => ?_) ?_ | intro hl))
  all_goals conv => whnf
theorem find_INDEX : Ret Try.prog F_lookup_find [.str ⟨#[73, 78, 68, 69, 88]⟩] (.tup [.fn F_lookup_index [] [], .int .i64 2, .int .i64 3]) := by
  refine r_lookup_find rfl fun hw => ?_
  clear hw
  repeat' ((conv => whnf); (first | refine csp (fun h => ?_) (fun h => ?_) | (refine sda ?_ ?_; (focus (first | rfl | (simp; done)))) | refine sda ?_ ?_ | refine conk rfl ?_ | refine ldk rfl ?_ | refine mapk (fun x hx => ?_) | exact ⟨rfl, rfl⟩ | refine nilk (fun h => ?_) ?_ | intro hl))
  all_goals conv => whnf
theorem find_LOOKUP : Ret Try.prog F_lookup_find [.str ⟨#[76, 79, 79, 75, 85, 80]⟩] (.tup [.fn F_lookup_lines_1 [] [.elem [.int .i64 1]], .int .i64 3, .int .i64 3]) := by
  refine r_lookup_find rfl fun hw => ?_
  clear hw
  repeat' ((conv => whnf); (first | refine csp (fun h => ?_) (fun h => ?_) | refine cllo (lookup_lines _) (fun _ => ?_) | refine cll (lookup_lines _) (fun _ => ?_) | (refine sda ?_ ?_; (focus (first | rfl | (simp; done)))) | refine sda ?_ ?_ | refine conk rfl ?_ | refine ldk rfl ?_ | refine mapk (fun x hx => ?_) | exact ⟨rfl, rfl⟩ | refine nilk (fun h => ?_) ?_ | intro hl))
  all_goals conv => whnf
theorem lookup_sized_2 : Ret Try.prog F_lookup_sized [.fn F_lookup_find_2 [] []] (.fn F_lookup_sized_1 [] [.elem [.fn F_lookup_find_2 [] []]]) := by
  refine r_lookup_sized rfl fun hw => ?_
  clear hw
  repeat' ((conv => whnf); (first | refine csp (fun h => ?_) (fun h => ?_) | (refine sda ?_ ?_; (focus (first | rfl | (simp; done)))) | refine sda ?_ ?_ | refine conk rfl ?_ | refine ldk rfl ?_ | refine mapk (fun x hx => ?_) | exact ⟨rfl, rfl⟩ | refine nilk (fun h => ?_) ?_ | intro hl))
  all_goals conv => whnf
theorem find_COLUMNS : Ret Try.prog F_lookup_find [.str ⟨#[67, 79, 76, 85, 77, 78, 83]⟩] (.tup [.fn F_lookup_sized_1 [] [.elem [.fn F_lookup_find_2 [] []]], .int .i64 1, .int .i64 1]) := by
  refine r_lookup_find rfl fun hw => ?_
  clear hw
  repeat' ((conv => whnf); (first | refine csp (fun h => ?_) (fun h => ?_) | refine cllo (lookup_sized_2) (fun _ => ?_) | refine cll (lookup_sized_2) (fun _ => ?_) | (refine sda ?_ ?_; (focus (first | rfl | (simp; done)))) | refine sda ?_ ?_ | refine conk rfl ?_ | refine ldk rfl ?_ | refine mapk (fun x hx => ?_) | exact ⟨rfl, rfl⟩ | refine nilk (fun h => ?_) ?_ | intro hl))
  all_goals conv => whnf
theorem find_2 (g : Ar) : Ret Try.prog F_lookup_find_2 [eA g] (.int .i64 g.cols) := by
  refine r_lookup_find_2 rfl fun hw => ?_
  clear hw
  repeat' ((conv => whnf); (first | refine csp (fun h => ?_) (fun h => ?_) | (refine sda ?_ ?_; (focus (first | rfl | (simp; done)))) | refine sda ?_ ?_ | refine conk rfl ?_ | refine ldk rfl ?_ | refine mapk (fun x hx => ?_) | exact ⟨rfl, rfl⟩ | refine nilk (fun h => ?_) ?_ | intro hl))
  all_goals conv => whnf
theorem sized_2 (g : Ar) (hg : goodA g = true) : Ret Try.prog F_lookup_sized_1 [.row false [cA g], .elem [.fn F_lookup_find_2 [] []]] (eV (ofS (IntKind.i64.wrap (g.cols * 10000)) true)) := by
  refine r_lookup_sized_1 rfl fun hw => ?_
  clear hw
  repeat' ((conv => whnf); (first | refine csp (fun h => ?_) (fun h => ?_) | refine cllo (goods1 g hg) (fun _ => ?_) | refine cll (goods1 g hg) (fun _ => ?_) | refine cllo (value_Bad _) (fun _ => ?_) | refine cll (value_Bad _) (fun _ => ?_) | refine cllo (find_2 g) (fun _ => ?_) | refine cll (find_2 g) (fun _ => ?_) | refine cllo (lookup_whole _) (fun _ => ?_) | refine cll (lookup_whole _) (fun _ => ?_) | (refine sda ?_ ?_; (focus (first | rfl | (simp; done)))) | refine sda ?_ ?_ | refine conk rfl ?_ | refine ldk rfl ?_ | refine mapk (fun x hx => ?_) | exact ⟨rfl, rfl⟩ | refine nilk (fun h => ?_) ?_ | intro hl))
  all_goals conv => whnf
end Go.Proofs.Ytkkfclpodgagdaa

/- Asking for layer 21's functions. -/
set_option maxRecDepth 100000
set_option linter.all false
namespace Go.Proofs.Ytkkfclpodgagdaa
open Ab R
theorem ask0 (nm : ByteArray) (g : FuncId) (lo hi : Int) (args : List (List V)) (r : GV) (hf : Ret Try.prog F_lookup_find [.str nm] (.tup [.fn g [] [], .int .i64 lo, .int .i64 hi])) (hr : Ret Try.prog g [.row false args] (eV r)) (h1 : lo ≤ args.length) (h2 : args.length ≤ hi) :
    Ret Try.prog F_octavolaw21_ask [.str nm, .row false args] (eV r) := by
  have hc : Ret Try.prog F_lookup_Call [.str nm, .row false args] (.tup [eV r, .bool true]) := by
    refine r_lookup_Call rfl fun hw => ?_
    clear hw
    repeat' ((conv => whnf); (first | refine csp (fun h => ?_) (fun h => ?_) | refine cllo (hf) (fun _ => ?_) | refine cll (hf) (fun _ => ?_) | refine cllo (hr) (fun _ => ?_) | refine cll (hr) (fun _ => ?_) | refine cllo (value_Bad _) (fun _ => ?_) | refine cll (value_Bad _) (fun _ => ?_) | (refine sda ?_ ?_; (focus (first | rfl | (simp; done)))) | refine sda ?_ ?_ | refine conk rfl ?_ | refine ldk rfl ?_ | refine mapk (fun x hx => ?_) | exact ⟨rfl, rfl⟩ | refine nilk (fun h => ?_) ?_ | intro hl))
    all_goals conv => whnf
    all_goals try simp only [decide_eq_true_eq, decide_eq_false_iff_not, Bool.not_eq_true', Bool.not_eq_false', List.length_map, Int.not_lt, Int.not_le, Decidable.not_not, gt_iff_lt, ge_iff_le] at *
    · exfalso
      omega
    · exfalso
      omega
  refine r_octavolaw21_ask rfl fun hw => ?_
  clear hw
  repeat' ((conv => whnf); (first | refine csp (fun h => ?_) (fun h => ?_) | refine cllo (hc) (fun _ => ?_) | refine cll (hc) (fun _ => ?_) | (refine sda ?_ ?_; (focus (first | rfl | (simp; done)))) | refine sda ?_ ?_ | refine conk rfl ?_ | refine ldk rfl ?_ | refine mapk (fun x hx => ?_) | exact ⟨rfl, rfl⟩ | refine nilk (fun h => ?_) ?_ | intro hl))
  all_goals conv => whnf
theorem ask1 (nm : ByteArray) (g : FuncId) (lo hi : Int) (args : List (List V)) (r : GV) (hf : Ret Try.prog F_lookup_find [.str nm] (.tup [.fn g [] [.elem [.int .i64 1]], .int .i64 lo, .int .i64 hi])) (hr : Ret Try.prog g [.row false args, .elem [.int .i64 1]] (eV r)) (h1 : lo ≤ args.length) (h2 : args.length ≤ hi) :
    Ret Try.prog F_octavolaw21_ask [.str nm, .row false args] (eV r) := by
  have hc : Ret Try.prog F_lookup_Call [.str nm, .row false args] (.tup [eV r, .bool true]) := by
    refine r_lookup_Call rfl fun hw => ?_
    clear hw
    repeat' ((conv => whnf); (first | refine csp (fun h => ?_) (fun h => ?_) | refine cllo (hf) (fun _ => ?_) | refine cll (hf) (fun _ => ?_) | refine cllo (hr) (fun _ => ?_) | refine cll (hr) (fun _ => ?_) | refine cllo (value_Bad _) (fun _ => ?_) | refine cll (value_Bad _) (fun _ => ?_) | (refine sda ?_ ?_; (focus (first | rfl | (simp; done)))) | refine sda ?_ ?_ | refine conk rfl ?_ | refine ldk rfl ?_ | refine mapk (fun x hx => ?_) | exact ⟨rfl, rfl⟩ | refine nilk (fun h => ?_) ?_ | intro hl))
    all_goals conv => whnf
    all_goals try simp only [decide_eq_true_eq, decide_eq_false_iff_not, Bool.not_eq_true', Bool.not_eq_false', List.length_map, Int.not_lt, Int.not_le, Decidable.not_not, gt_iff_lt, ge_iff_le] at *
    · exfalso
      omega
    · exfalso
      omega
  refine r_octavolaw21_ask rfl fun hw => ?_
  clear hw
  repeat' ((conv => whnf); (first | refine csp (fun h => ?_) (fun h => ?_) | refine cllo (hc) (fun _ => ?_) | refine cll (hc) (fun _ => ?_) | (refine sda ?_ ?_; (focus (first | rfl | (simp; done)))) | refine sda ?_ ?_ | refine conk rfl ?_ | refine ldk rfl ?_ | refine mapk (fun x hx => ?_) | exact ⟨rfl, rfl⟩ | refine nilk (fun h => ?_) ?_ | intro hl))
  all_goals conv => whnf
theorem ask2 (nm : ByteArray) (g : FuncId) (lo hi : Int) (args : List (List V)) (r : GV) (hf : Ret Try.prog F_lookup_find [.str nm] (.tup [.fn g [] [.elem [.fn F_lookup_find_2 [] []]], .int .i64 lo, .int .i64 hi])) (hr : Ret Try.prog g [.row false args, .elem [.fn F_lookup_find_2 [] []]] (eV r)) (h1 : lo ≤ args.length) (h2 : args.length ≤ hi) :
    Ret Try.prog F_octavolaw21_ask [.str nm, .row false args] (eV r) := by
  have hc : Ret Try.prog F_lookup_Call [.str nm, .row false args] (.tup [eV r, .bool true]) := by
    refine r_lookup_Call rfl fun hw => ?_
    clear hw
    repeat' ((conv => whnf); (first | refine csp (fun h => ?_) (fun h => ?_) | refine cllo (hf) (fun _ => ?_) | refine cll (hf) (fun _ => ?_) | refine cllo (hr) (fun _ => ?_) | refine cll (hr) (fun _ => ?_) | refine cllo (value_Bad _) (fun _ => ?_) | refine cll (value_Bad _) (fun _ => ?_) | (refine sda ?_ ?_; (focus (first | rfl | (simp; done)))) | refine sda ?_ ?_ | refine conk rfl ?_ | refine ldk rfl ?_ | refine mapk (fun x hx => ?_) | exact ⟨rfl, rfl⟩ | refine nilk (fun h => ?_) ?_ | intro hl))
    all_goals conv => whnf
    all_goals try simp only [decide_eq_true_eq, decide_eq_false_iff_not, Bool.not_eq_true', Bool.not_eq_false', List.length_map, Int.not_lt, Int.not_le, Decidable.not_not, gt_iff_lt, ge_iff_le] at *
    · exfalso
      omega
    · exfalso
      omega
  refine r_octavolaw21_ask rfl fun hw => ?_
  clear hw
  repeat' ((conv => whnf); (first | refine csp (fun h => ?_) (fun h => ?_) | refine cllo (hc) (fun _ => ?_) | refine cll (hc) (fun _ => ?_) | (refine sda ?_ ?_; (focus (first | rfl | (simp; done)))) | refine sda ?_ ?_ | refine conk rfl ?_ | refine ldk rfl ?_ | refine mapk (fun x hx => ?_) | exact ⟨rfl, rfl⟩ | refine nilk (fun h => ?_) ?_ | intro hl))
  all_goals conv => whnf
def nA (n : Int) : Ar := ⟨1, 1, [⟨1, n, e0⟩], false⟩
theorem one_nA {n : Int} (h : goodN n = true) : oneS (nA n) = ⟨1, n, e0⟩ := by
  have : goodA (nA n) = true := goodA_yes ⟨by simp [nA], by simp [nA], by simp [nA], by simp [nA], rfl⟩ (by simp [nA, goodV, h])
  rw [oneS, if_pos ⟨rfl, this⟩]
  rfl
def kA : Ar := ⟨1, 3, [⟨1, 10000, e0⟩, ⟨1, 20000, e0⟩, ⟨1, 40000, e0⟩], true⟩
theorem good_kA : goodA kA = true := goodA_yes ⟨by decide, by decide, by decide, by decide, rfl⟩ (by simp [kA, goodV, goodN])
theorem kA_num : ∀ k ∈ kA.l, k.k = 1 := by simp [kA]
theorem live1 : Ret Try.prog F_octavolaw21_ask [.str ⟨#[77, 65, 84, 67, 72]⟩, .row false [cA (nA 30000), cA kA]] (eV ⟨1, 20000, e0⟩) :=
  ask0 _ _ 2 3 _ _ find_MATCH (place2 (nA 30000) kA 30000 e0 (one_nA (by decide)) good_kA (.inl rfl) kA_num) (by decide) (by decide)
theorem live2 : Ret Try.prog F_octavolaw21_ask [.str ⟨#[77, 65, 84, 67, 72]⟩, .row false [cA (nA 30000), cA kA, cA (nA 0)]] (eV ⟨4, 6, e0⟩) :=
  ask0 _ _ 2 3 _ _ find_MATCH (place3 (nA 30000) kA (nA 0) 30000 e0 (one_nA (by decide)) good_kA (.inl rfl) kA_num (by rw [one_nA (by decide)]; decide) (by rw [one_nA (by decide)]; decide)) (by decide) (by decide)
theorem live3 : Ret Try.prog F_octavolaw21_ask [.str ⟨#[73, 78, 68, 69, 88]⟩, .row false [cA kA, cA (nA 30000)]] (eV ⟨1, 40000, e0⟩) :=
  ask0 _ _ 2 3 _ _ find_INDEX (index2 kA (nA 30000) good_kA rfl (by rw [one_nA (by decide)]; decide) 3 (by rw [one_nA (by decide)]; decide)) (by decide) (by decide)
theorem live4 : Ret Try.prog F_octavolaw21_ask [.str ⟨#[67, 79, 76, 85, 77, 78, 83]⟩, .row false [cA kA]] (eV ⟨1, 30000, e0⟩) :=
  ask2 _ _ 1 1 _ _ find_COLUMNS (sized_2 kA good_kA) (by decide) (by decide)
theorem law_num (n : Int) : Ret Try.prog F_octavolaw21_number [.int .i64 n] (eA (nA n)) := law_number n
theorem lives : Ret Try.prog F_octavolaw21_lives [] (.bool true) := by
  refine r_octavolaw21_lives rfl fun hw => ?_
  clear hw
  repeat' ((conv => whnf); (first | refine csp (fun h => ?_) (fun h => ?_) | refine cllo (live1) (fun _ => ?_) | refine cll (live1) (fun _ => ?_) | refine cllo (live2) (fun _ => ?_) | refine cll (live2) (fun _ => ?_) | refine cllo (live3) (fun _ => ?_) | refine cll (live3) (fun _ => ?_) | refine cllo (live4) (fun _ => ?_) | refine cll (live4) (fun _ => ?_) | refine cllo (law_num _) (fun _ => ?_) | refine cll (law_num _) (fun _ => ?_) | (refine sda ?_ ?_; (focus (first | rfl | (simp; done)))) | refine sda ?_ ?_ | refine conk rfl ?_ | refine ldk rfl ?_ | refine mapk (fun x hx => ?_) | exact ⟨rfl, rfl⟩ | refine nilk (fun h => ?_) ?_ | intro hl))
  all_goals conv => whnf
  all_goals rfl
end Go.Proofs.Ytkkfclpodgagdaa

/- LookupNear. -/
set_option maxRecDepth 100000
set_option linter.all false
namespace Go.Proofs.Ytkkfclpodgagdaa
open Ab R
/-- The numbers that rise. -/
def nums (n : Int) : List Int → List Int
  | [] => []
  | g :: gs => (n + g.tmod 100000) :: nums (n + g.tmod 100000) gs
def lastN (n : Int) (l : List Int) : Int := (nums n l).getLast?.getD n
abbrev nv (n : Int) : GV := ⟨1, n, e0⟩
theorem nums_len (n : Int) : ∀ l, (nums n l).length = l.length
  | [] => rfl
  | g :: l => by simp [nums, nums_len]
theorem nums_snoc : ∀ (l : List Int) (n g : Int), nums n (l ++ [g]) = nums n l ++ [lastN n l + g.tmod 100000]
  | [], n, g => rfl
  | a :: l, n, g => by
    have h := nums_snoc l (n + a.tmod 100000) g
    have : lastN n (a :: l) = lastN (n + a.tmod 100000) l := by
      unfold lastN
      simp only [nums]
      cases q : nums (n + a.tmod 100000) l with
      | nil => rfl
      | cons x xs => simp [List.getLast?_cons]
    simp only [List.cons_append, nums, h, this]
theorem lastN_snoc (l : List Int) (n g : Int) : lastN n (l ++ [g]) = lastN n l + g.tmod 100000 := by
  unfold lastN
  rw [nums_snoc]
  simp [lastN]
theorem u64b {x : Int} (h : IntKind.u64.wrap x = x) : 0 ≤ x.tmod 100000 ∧ x.tmod 100000 < 100000 ∧ 0 ≤ x := by
  have h0 := (wrap_iff .u64 x).1 h
  have h1 : 0 ≤ x := h0.1
  rw [Int.tmod_eq_emod_of_nonneg h1]
  exact ⟨Int.emod_nonneg _ (by decide), Int.emod_lt_of_pos _ (by decide), h1⟩
theorem nums_b : ∀ (l : List Int) (n : Int), (∀ x ∈ l, IntKind.u64.wrap x = x) → ∀ y ∈ nums n l, n ≤ y ∧ y ≤ n + l.length * 99999
  | [], n, _, y, h => by cases h
  | g :: l, n, hl, y, h => by
    have hg := u64b (hl g List.mem_cons_self)
    simp only [nums, List.mem_cons] at h
    rcases h with rfl | h
    · simp only [List.length_cons]; omega
    · have := nums_b l _ (fun x hx => hl x (List.mem_cons_of_mem _ hx)) y h
      simp only [List.length_cons]
      omega
theorem nums_rise : ∀ (l : List Int) (n : Int), (∀ x ∈ l, IntKind.u64.wrap x = x) → (nums n l).Pairwise (· ≤ ·)
  | [], n, _ => List.Pairwise.nil
  | g :: l, n, hl => by
    have hl2 : ∀ x ∈ l, IntKind.u64.wrap x = x := fun x hx => hl x (List.mem_cons_of_mem _ hx)
    simp only [nums, List.pairwise_cons]
    exact ⟨fun y hy => (nums_b l _ hl2 y hy).1, nums_rise l _ hl2⟩
theorem lastN_b (l : List Int) (n : Int) (hl : ∀ x ∈ l, IntKind.u64.wrap x = x) : n ≤ lastN n l ∧ lastN n l ≤ n + l.length * 99999 := by
  unfold lastN
  cases q : (nums n l).getLast? with
  | none => simp; omega
  | some y => exact nums_b l n hl y (List.mem_of_getLast? q)
/-- The last place that is not above. -/
def wantL (x : Int) : List Int → Int → Int → Int
  | [], _, w => w
  | k :: ks, i, w => wantL x ks (i + 1) (if k ≤ x then i else w)
theorem wantL_snoc (x : Int) : ∀ (l : List Int) (i w k : Int), wantL x (l ++ [k]) i w = if k ≤ x then i + l.length else wantL x l i w
  | [], i, w, k => by simp [wantL]
  | a :: l, i, w, k => by
    simp only [List.cons_append, wantL, wantL_snoc x l, List.length_cons]
    split
    · omega
    · rfl
theorem wantL_b (x : Int) : ∀ (l : List Int) (i w : Int), 1 ≤ i → 0 ≤ w → w < i → 0 ≤ wantL x l i w ∧ wantL x l i w < i + l.length
  | [], i, w, h1, h2, h3 => by simp [wantL]; omega
  | k :: l, i, w, h1, h2, h3 => by
    simp only [wantL, List.length_cons]
    split
    · have := wantL_b x l (i + 1) i (by omega) (by omega) (by omega); omega
    · have := wantL_b x l (i + 1) w (by omega) (by omega) (by omega); omega
theorem wantL_above (x : Int) : ∀ (l : List Int) (i w : Int), (∀ k ∈ l, x < k) → wantL x l i w = w
  | [], i, w, _ => rfl
  | k :: l, i, w, h => by
    simp only [wantL]
    rw [if_neg (by have := h k List.mem_cons_self; omega)]
    exact wantL_above x l (i + 1) w fun y hy => h y (List.mem_cons_of_mem _ hy)
theorem scan_want (x : Int) : ∀ (l : List Int) (i w : Int), l.Pairwise (· ≤ ·) → scanS 1 x (l.map nv) i w = if wantL x l i w = 0 then (0, 6) else (wantL x l i w, 0)
  | [], i, w, _ => rfl
  | k :: l, i, w, h => by
    rw [List.pairwise_cons] at h
    have hw : wantL x (k :: l) i w = wantL x l (i + 1) (if k ≤ x then i else w) := rfl
    generalize hq : wantL x (k :: l) i w = q at *
    simp only [List.map_cons, scanS]
    rw [if_neg (by omega)]
    by_cases hk : k ≤ x
    · rw [if_pos hk] at hw
      rw [if_neg (by unfold cmpI; split <;> (try split) <;> omega), if_neg (by decide), hw]
      exact scan_want x l (i + 1) i h.2
    · rw [if_neg hk, wantL_above x l (i + 1) w fun y hy => by have := h.1 y hy; omega] at hw
      rw [if_pos (by unfold cmpI; split <;> (try split) <;> omega), hw]
theorem ofS_y {n : Int} (h : goodN n = true) : ofS n true = ⟨1, n, e0⟩ := by
  rw [ofS, h]
  rfl
def kA' (l : List Int) : Ar := ⟨1, l.length, l.map nv, true⟩
theorem good_keys (l : List Int) (h1 : 1 ≤ l.length) (h2 : l.length ≤ 60) (hb : ∀ k ∈ l, -100000000000 ≤ k ∧ k ≤ 100000000000) : goodA (kA' l) = true :=
  goodA_yes ⟨by simp [kA'], by simp [kA']; omega, by simp [kA'], by simp [kA']; omega, by simp [kA']⟩ (by
    simp only [kA', List.all_eq_true, List.mem_map]
    rintro v ⟨k, hk, rfl⟩
    have := hb k hk
    simp [goodV, goodN]
    omega)
theorem near_match (l : List Int) (x : Int) (h1 : 1 ≤ l.length) (h2 : l.length ≤ 60) (hb : ∀ k ∈ l, -100000000000 ≤ k ∧ k ≤ 100000000000) (hx : goodN x = true) (hr : l.Pairwise (· ≤ ·)) :
    Ret Try.prog F_octavolaw21_ask [.str ⟨#[77, 65, 84, 67, 72]⟩, .row false [cA (nA x), cA (kA' l)]] (eV (if wantL x l 1 0 = 0 then ⟨4, 6, e0⟩ else ⟨1, wantL x l 1 0 * 10000, e0⟩)) := by
  have hg := good_keys l h1 h2 hb
  have hp := place2 (nA x) (kA' l) x e0 (one_nA hx) hg (.inl rfl) (fun k hk => by simp only [kA', List.mem_map] at hk; obtain ⟨y, _, rfl⟩ := hk; rfl)
  have hs : scanS 1 x (kA' l).l 1 0 = _ := scan_want x l 1 0 hr
  have hw := wantL_b x l 1 0 (by omega) (by omega) (by omega)
  have h := ask0 _ _ 2 3 _ _ find_MATCH hp (show (2 : Int) ≤ 2 by decide) (show (2 : Int) ≤ 3 by decide)
  rw [hs] at h
  by_cases q : wantL x l 1 0 = 0
  · rw [if_pos q] at h ⊢
    exact h
  · rw [if_neg q] at h ⊢
    simp only [show ¬ (0 : Int) < 0 by decide, if_false] at h
    rwa [w64 (by omega), ofS_y (by rw [goodN, decide_eq_true_eq]; omega)] at h
theorem near_lookup (l : List Int) (x : Int) (h1 : 1 ≤ l.length) (h2 : l.length ≤ 60) (hb : ∀ k ∈ l, -100000000000 ≤ k ∧ k ≤ 100000000000) (hx : goodN x = true) (hr : l.Pairwise (· ≤ ·)) (hw0 : wantL x l 1 0 ≠ 0) {k : Int} (hk : l[(wantL x l 1 0 - 1).toNat]? = some k) :
    Ret Try.prog F_octavolaw21_ask [.str ⟨#[76, 79, 79, 75, 85, 80]⟩, .row false [cA (nA x), cA (kA' l), cA (kA' l)]] (eV (nv k)) := by
  have hg := good_keys l h1 h2 hb
  have hs : scanS 1 x (kA' l).l 1 0 = _ := scan_want x l 1 0 hr
  rw [if_neg hw0] at hs
  have hw := wantL_b x l 1 0 (by omega) (by omega) (by omega)
  have hp := lines3 (nA x) (kA' l) (nA x) x e0 (one_nA hx) hg (.inl rfl) (fun k hk => by simp only [kA', List.mem_map] at hk; obtain ⟨y, _, rfl⟩ := hk; rfl) (nv k) (by rw [hs]) (by rw [hs]; show 1 ≤ wantL x l 1 0; omega) (by rw [hs]; simp only [kA', List.getElem?_map, hk]; rfl)
  exact ask1 _ _ 3 3 _ _ find_LOOKUP hp (show (3 : Int) ≤ 3 by decide) (show (3 : Int) ≤ 3 by decide)
theorem bytesn {a b n : Nat} (h1 : a ≤ n) (h2 : Nat.ble (n * b) 140737488355327 = true) : a * b ≤ 140737488355327 :=
  Nat.le_trans (Nat.mul_le_mul_right _ h1) (Nat.le_of_ble_eq_true h2)
abbrev uV (l : List Int) : List (List V) := l.map fun n => [.int .u64 n]
set_option maxHeartbeats 4000000 in
theorem near_main (l : List Int) (first v : Int) (hl1 : 1 ≤ l.length) (hl2 : l.length ≤ 60) (hu : ∀ x ∈ l, IntKind.u64.wrap x = x) (h1 : IntKind.i64.wrap first = first) (h2 : IntKind.i64.wrap v = v) :
    Ret Try.prog F_octavolaw21_LookupNear [.row false (uV l), .int .i64 first, .int .i64 v] (.bool true) := by
  have hlen : (uV l).length = l.length := List.length_map _
  have d1 : decide (((uV l).length : Int) = 0) = false := decide_eq_false (by rw [hlen]; omega)
  have d2 : decide (((uV l).length : Int) > 60) = false := decide_eq_false (by rw [hlen]; omega)
  obtain ⟨n0, hn0⟩ : ∃ n0, first.tmod 1000000 = n0 := ⟨_, rfl⟩
  obtain ⟨X, hX⟩ : ∃ X, v.tmod 10000000 = X := ⟨_, rfl⟩
  have b0 : -1000000 < n0 ∧ n0 < 1000000 := by rw [← hn0]; exact ⟨by have := Int.lt_tmod_of_pos first (show (0:Int) < 1000000 by decide); omega, Int.tmod_lt_of_pos first (by decide)⟩
  have bx : -10000000 < X ∧ X < 10000000 := by rw [← hX]; exact ⟨by have := Int.lt_tmod_of_pos v (show (0:Int) < 10000000 by decide); omega, Int.tmod_lt_of_pos v (by decide)⟩
  have hut : ∀ i, ∀ y ∈ l.take i, IntKind.u64.wrap y = y := fun i y hy => hu y (List.mem_of_mem_take hy)
  refine r_octavolaw21_LookupNear rfl fun hw => ?_
  clear hw
  repeat' ((conv => whnf); (first | refine csp_f (d1) ?_ | refine csp_f (d2) ?_ | refine pickk0 ?_ | refine csp (fun h => ?_) (fun h => ?_) | (refine sda ?_ ?_; (focus (first | rfl | exact of_decide_eq_true rfl | (simp; done)))) | refine sda ?_ ?_ | refine conk rfl ?_ | refine ldk rfl ?_ | refine mapk (fun x hx => ?_) | exact ⟨rfl, rfl⟩ | refine nilk (fun h => absurd h (of_decide_eq_false rfl)) ?_ | refine nilk (fun h => absurd h (List.cons_ne_nil _ _)) ?_ | refine nilk (fun h => ?_) ?_ | exact rfl | refine leftk1 rfl ?_ | refine bytk8 rfl ?_ | refine bytk rfl ?_ | exact leftk0 rfl | refine eqk rfl ?_ | refine fLm rfl ?_ | refine fLk (by assumption) ?_ | refine fVk ?_ | refine fLVk ?_ | refine fWk ?_ | intro hl))
  conv => whnf
  refine .inl ⟨Nat, [2, 7, 8, 30, 31, 32], [0, 2], fun i => [(2, .int .i64 v), (7, .ptr 0 0), (8, .int .i64 (lastN n0 (l.take i))), (30, .row false (uV l)), (31, .int .i64 (uV l).length), (32, .int .i64 i)],
    fun i => [.box true [.int .i64 1, .int .i64 (uV l).length, (match i with | 0 => .row true [] | n + 1 => .sl 1 0 (n + 1)), .bool true], match i with | 0 => .gone | n + 1 => .arr true 3 (((nums n0 (l.take (n + 1))).map nv).map cV)],
    fun i => i ≤ l.length, fun i => l.length - i, rfl, ?_, fun i hi => ?_⟩
  · conv => whnf
    exact ⟨0, by rw [hn0]; rfl, rfl, Nat.zero_le _⟩
  · have hlt := fun x hx => u64b (hu x hx)
    have step : ∀ (i : Nat) (y : Int), l[i]? = some y → IntKind.i64.wrap (lastN n0 (l.take i) + IntKind.i64.wrap (y.tmod 100000)) = lastN n0 (l.take (i + 1)) ∧ nums n0 (l.take (i + 1)) = nums n0 (l.take i) ++ [lastN n0 (l.take (i + 1))] := by
      intro i y hy
      have hym := u64b (hu y (List.mem_of_getElem? hy))
      have hb := lastN_b (l.take i) n0 (hut i)
      have hlt := List.length_take (i := i) (l := l)
      have e : l.take (i + 1) = l.take i ++ [y] := by rw [List.take_add_one, hy]; rfl
      rw [e, nums_snoc, lastN_snoc, w64 (n := y.tmod 100000) (by omega), w64 (by omega)]
      exact ⟨rfl, rfl⟩
    cases i with
    | zero =>
      repeat' ((conv => whnf); (first | refine pickk0 ?_ | refine csp (fun h => ?_) (fun h => ?_) | (refine sda ?_ ?_; (focus (first | rfl | exact of_decide_eq_true rfl | (simp; done)))) | refine sda ?_ ?_ | refine conk rfl ?_ | refine ldk rfl ?_ | refine mapk (fun x hx => ?_) | exact ⟨rfl, rfl⟩ | refine nilk (fun h => absurd h (of_decide_eq_false rfl)) ?_ | refine nilk (fun h => absurd h (List.cons_ne_nil _ _)) ?_ | refine nilk (fun h => ?_) ?_ | exact rfl | refine leftk1 rfl ?_ | refine bytk8 rfl ?_ | refine bytk rfl ?_ | exact leftk0 rfl | refine eqk rfl ?_ | refine fLm rfl ?_ | refine fLk (by assumption) ?_ | refine fVk ?_ | refine fLVk ?_ | refine fWk ?_ | intro hl))
      · rw [hlen]
        omega
      · rename Int => y
        rename l[_]? = some y => hy
        have hs := step 0 y (by simpa using hy)
        conv => whnf
        refine ⟨1, ?_, ?_, (by show 1 ≤ l.length; omega), (by show l.length - 1 < l.length - 0; omega)⟩
        · rw [hs.1]
          rfl
        · rw [hs.1]
          exact congrArg (fun z => [O.box true [.int .i64 1, .int .i64 (uV l).length, .sl 1 0 1, .bool true], O.arr true 3 ((z.map nv).map cV)]) hs.2.symm
      · have := of_decide_eq_false h
        rw [hlen] at this
        exfalso
        omega
    | succ i =>
      repeat' ((conv => whnf); (first | refine pickk0 ?_ | refine csp (fun h => ?_) (fun h => ?_) | (refine sda ?_ ?_; (focus (first | rfl | exact of_decide_eq_true rfl | (simp; done)))) | refine sda ?_ ?_ | refine conk rfl ?_ | refine ldk rfl ?_ | refine mapk (fun x hx => ?_) | exact ⟨rfl, rfl⟩ | refine nilk (fun h => absurd h (of_decide_eq_false rfl)) ?_ | refine nilk (fun h => absurd h (List.cons_ne_nil _ _)) ?_ | refine nilk (fun h => ?_) ?_ | exact rfl | refine leftk1 rfl ?_ | refine bytk8 rfl ?_ | refine bytk rfl ?_ | exact leftk0 rfl | refine eqk rfl ?_ | refine fLm rfl ?_ | refine fLk (by assumption) ?_ | refine fVk ?_ | refine fLVk ?_ | refine fWk ?_ | intro hl))
      · rw [hlen]
        have := of_decide_eq_true h
        rw [hlen] at this
        omega
      · simp only [List.length_map, nums_len, List.length_take]
        omega
      · refine bytesn (a := _) (n := 61) ?_ (by kernel_rfl)
        simp only [List.length_map, nums_len, List.length_take, List.length_cons, List.length_nil]
        omega
      · rename Int => y
        rename l[_]? = some y => hy
        have hs := step (i + 1) y (by simpa using hy)
        have hil : i + 1 < l.length := (List.getElem?_eq_some_iff.1 (show l[i + 1]? = some y by simpa using hy)).1
        conv => whnf
        refine ⟨i + 1 + 1, ?_, ?_, (by show i + 1 + 1 ≤ l.length; omega), (by show l.length - (i + 1 + 1) < l.length - (i + 1); omega)⟩
        · rw [hs.1, w64 (n := ((i + 1 : Nat) : Int) + 1) (by omega)]
          rfl
        · rw [hs.1]
          have e : ((nums n0 (l.take (i + 1 + 1))).map nv).map cV = ((nums n0 (l.take (i + 1))).map nv).map cV ++ [cV (nv (lastN n0 (l.take (i + 1 + 1))))] := by
            rw [hs.2, List.map_append, List.map_append]
            rfl
          show _ = [O.box true [.int .i64 1, .int .i64 (uV l).length, .sl 1 0 (i + 1 + 1), .bool true], O.arr true 3 (((nums n0 (l.take (i + 1 + 1))).map nv).map cV)]
          rw [e]
          have e2 : (((nums n0 (l.take (i + 1))).map nv).map cV).length = i + 1 := by
            simp only [List.length_map, nums_len, List.length_take]
            omega
          rw [e2]
          rfl
      · have hil : i + 1 = l.length := by have := of_decide_eq_false h; rw [hlen] at this; omega
        rw [hX, show l.take (i + 1) = l from List.take_of_length_le (by omega)]
        obtain ⟨K, hK⟩ : ∃ K, nums n0 l = K := ⟨_, rfl⟩
        have hKl : K.length = l.length := by rw [← hK, nums_len]
        have hKr : K.Pairwise (· ≤ ·) := by rw [← hK]; exact nums_rise l n0 hu
        have hKb : ∀ k ∈ K, -100000000000 ≤ k ∧ k ≤ 100000000000 := by
          intro k hk
          rw [← hK] at hk
          have := nums_b l n0 hu k hk
          omega
        rw [hK, hil]
        repeat' ((conv => whnf); (first | refine pickk0 ?_ | refine csp (fun h => ?_) (fun h => ?_) | (refine sda ?_ ?_; (focus (first | rfl | exact of_decide_eq_true rfl | (simp; done)))) | refine sda ?_ ?_ | refine conk rfl ?_ | refine ldk rfl ?_ | refine mapk (fun x hx => ?_) | exact ⟨rfl, rfl⟩ | refine nilk (fun h => absurd h (of_decide_eq_false rfl)) ?_ | refine nilk (fun h => absurd h (List.cons_ne_nil _ _)) ?_ | refine nilk (fun h => ?_) ?_ | exact rfl | refine leftk1 rfl ?_ | refine bytk8 rfl ?_ | refine bytk rfl ?_ | exact leftk0 rfl | refine eqk rfl ?_ | refine fLm rfl ?_ | refine fLk (by assumption) ?_ | refine fVk ?_ | refine fLVk ?_ | refine fWk ?_ | intro hl))
        conv => whnf
        refine .inr (.inr (.inr ⟨Nat, [7, 11, 12, 52, 53, 54], [0], fun i => [(7, .ptr 0 0), (11, .int .i64 X), (12, .int .i64 (wantL X (K.take i) 1 0)), (52, .row false ((K.map nv).map cV)), (53, .int .i64 l.length), (54, .int .i64 i)],
          fun _ => [.box true [.int .i64 1, .int .i64 (uV l).length, .row false ((K.map nv).map cV), .bool true]], fun i => i ≤ l.length, fun i => l.length - i, rfl, ?_, fun i hi => ?_⟩))
        · conv => whnf
          refine ⟨0, ?_, ?_, Nat.zero_le _⟩
          · rw [List.drop_zero, List.take_of_length_le (by simp [hKl])]
            rfl
          · rw [List.drop_zero, List.take_of_length_le (by simp [hKl])]
        · have hi : i ≤ l.length := hi
          have grow : ∀ (g : GV), (K.map nv)[i]? = some g → K.take (i + 1) = K.take i ++ [g.n] ∧ i < l.length := by
            intro g hg
            rw [List.getElem?_map, Option.map_eq_some_iff] at hg
            obtain ⟨k, hk, rfl⟩ := hg
            refine ⟨by rw [List.take_add_one, hk]; rfl, ?_⟩
            have := (List.getElem?_eq_some_iff.1 hk).1
            omega
          rcases Nat.lt_or_ge i l.length with hil2 | hil2
          · have q1 : decide ((i : Int) < l.length) = true := decide_eq_true (by omega)
            repeat' ((conv => whnf); (first | refine csp_t (q1) ?_ | refine pickk0 ?_ | refine csp (fun h => ?_) (fun h => ?_) | (refine sda ?_ ?_; (focus (first | rfl | exact of_decide_eq_true rfl | (simp; done)))) | refine sda ?_ ?_ | refine conk rfl ?_ | refine ldk rfl ?_ | refine mapk (fun x hx => ?_) | exact ⟨rfl, rfl⟩ | refine nilk (fun h => absurd h (of_decide_eq_false rfl)) ?_ | refine nilk (fun h => absurd h (List.cons_ne_nil _ _)) ?_ | refine nilk (fun h => ?_) ?_ | exact rfl | refine leftk1 rfl ?_ | refine bytk8 rfl ?_ | refine bytk rfl ?_ | exact leftk0 rfl | refine eqk rfl ?_ | refine fLm rfl ?_ | refine fLk (by assumption) ?_ | refine fVk ?_ | refine fLVk ?_ | refine fWk ?_ | intro hl))
            · simp only [List.length_map]
              omega
            · rename GV => g
              rename (K.map nv)[_]? = some g => hg
              have hg2 := grow g (by simpa using hg)
              have hle := of_decide_eq_true h
              repeat' ((conv => whnf); (first | refine pickk0 ?_ | refine csp (fun h => ?_) (fun h => ?_) | (refine sda ?_ ?_; (focus (first | rfl | exact of_decide_eq_true rfl | (simp; done)))) | refine sda ?_ ?_ | refine conk rfl ?_ | refine ldk rfl ?_ | refine mapk (fun x hx => ?_) | exact ⟨rfl, rfl⟩ | refine nilk (fun h => absurd h (of_decide_eq_false rfl)) ?_ | refine nilk (fun h => absurd h (List.cons_ne_nil _ _)) ?_ | refine nilk (fun h => ?_) ?_ | exact rfl | refine leftk1 rfl ?_ | refine bytk8 rfl ?_ | refine bytk rfl ?_ | exact leftk0 rfl | refine eqk rfl ?_ | refine fLm rfl ?_ | refine fLk (by assumption) ?_ | refine fVk ?_ | refine fLVk ?_ | refine fWk ?_ | intro hl))
              conv => whnf
              refine ⟨i + 1, ?_, rfl, (by show i + 1 ≤ l.length; omega), (by show l.length - (i + 1) < l.length - i; omega)⟩
              dsimp only
              rw [hg2.1, wantL_snoc, if_pos hle, List.length_take, w64 (n := (i : Int) + 1) (by omega)]
              rw [Nat.min_eq_left (by omega), show (1 : Int) + (i : Int) = (i : Int) + 1 by omega]
              rfl
            · rename GV => g
              rename (K.map nv)[_]? = some g => hg
              have hg2 := grow g (by simpa using hg)
              have hle := of_decide_eq_false h
              repeat' ((conv => whnf); (first | refine pickk0 ?_ | refine csp (fun h => ?_) (fun h => ?_) | (refine sda ?_ ?_; (focus (first | rfl | exact of_decide_eq_true rfl | (simp; done)))) | refine sda ?_ ?_ | refine conk rfl ?_ | refine ldk rfl ?_ | refine mapk (fun x hx => ?_) | exact ⟨rfl, rfl⟩ | refine nilk (fun h => absurd h (of_decide_eq_false rfl)) ?_ | refine nilk (fun h => absurd h (List.cons_ne_nil _ _)) ?_ | refine nilk (fun h => ?_) ?_ | exact rfl | refine leftk1 rfl ?_ | refine bytk8 rfl ?_ | refine bytk rfl ?_ | exact leftk0 rfl | refine eqk rfl ?_ | refine fLm rfl ?_ | refine fLk (by assumption) ?_ | refine fVk ?_ | refine fLVk ?_ | refine fWk ?_ | intro hl))
              conv => whnf
              refine ⟨i + 1, ?_, rfl, (by show i + 1 ≤ l.length; omega), (by show l.length - (i + 1) < l.length - i; omega)⟩
              dsimp only
              rw [hg2.1, wantL_snoc, if_neg hle, w64 (n := (i : Int) + 1) (by omega)]
              rfl
          · have q1 : decide ((i : Int) < K.length) = false := decide_eq_false (by omega)
            have hgx : goodN X = true := by rw [goodN, decide_eq_true_eq]; omega
            have hm := near_match K X (by omega) (by omega) hKb hgx hKr
            have hwb := wantL_b X K 1 0 (by omega) (by omega) (by omega)
            dsimp only
            rw [show K.take i = K from List.take_of_length_le (by omega), hlen, ← hKl]
            by_cases q : wantL X K 1 0 = 0
            · rw [if_pos q] at hm
              have q2 : decide (wantL X K 1 0 = 0) = true := decide_eq_true q
              repeat' ((conv => whnf); (first | refine csp_f (q1) ?_ | refine csp_t (q2) ?_ | refine pickk0 ?_ | refine csp (fun h => ?_) (fun h => ?_) | refine cllo (law_num _) (fun _ => ?_) | refine cll (law_num _) (fun _ => ?_) | refine cllo (hm) (fun _ => ?_) | refine cll (hm) (fun _ => ?_) | refine cllo (lives) (fun _ => ?_) | refine cll (lives) (fun _ => ?_) | (refine sda ?_ ?_; (focus (first | rfl | exact of_decide_eq_true rfl | (simp; done)))) | refine sda ?_ ?_ | refine conk rfl ?_ | refine ldk rfl ?_ | refine mapk (fun x hx => ?_) | exact ⟨rfl, rfl⟩ | refine nilk (fun h => absurd h (of_decide_eq_false rfl)) ?_ | refine nilk (fun h => absurd h (List.cons_ne_nil _ _)) ?_ | refine nilk (fun h => ?_) ?_ | exact rfl | refine leftk1 rfl ?_ | refine bytk8 rfl ?_ | refine bytk rfl ?_ | exact leftk0 rfl | refine eqk rfl ?_ | refine fLm rfl ?_ | refine fLk (by assumption) ?_ | refine fVk ?_ | refine fLVk ?_ | refine fWk ?_ | intro hl))
              all_goals conv => whnf
            · rw [if_neg q] at hm
              have q2 : decide (wantL X K 1 0 = 0) = false := decide_eq_false q
              have hlt2 : (wantL X K 1 0 - 1).toNat < K.length := by omega
              have hk := List.getElem?_eq_getElem hlt2
              generalize K[(wantL X K 1 0 - 1).toNat] = k at hk
              have hlk := near_lookup K X (by omega) (by omega) hKb hgx hKr q hk
              have hww : IntKind.i64.wrap (wantL X K 1 0 - 1) = wantL X K 1 0 - 1 := w64 (by omega)
              have hk2 : ((K.map nv).map cV)[(IntKind.i64.wrap (wantL X K 1 0 - 1)).toNat]? = some (cV (nv k)) := by rw [hww, List.getElem?_map, List.getElem?_map, hk]; rfl
              have hbd : 0 ≤ IntKind.i64.wrap (wantL X K 1 0 - 1) ∧ IntKind.i64.wrap (wantL X K 1 0 - 1) < (((K.map nv).map cV).length : Nat) := by rw [hww]; simp only [List.length_map]; omega
              have q3 : decide (wantL X K 1 0 * 10000 = IntKind.i64.wrap (wantL X K 1 0 * 10000)) = true := decide_eq_true (w64 (by omega)).symm
              have q4 : (decide ((nv k).k = (nv k).k) && (decide ((nv k).n = (nv k).n) && (decide ((nv k).s = (nv k).s) && true))) = true := by simp
              repeat' ((conv => whnf); (first | refine csp_f (q1) ?_ | refine csp_f (q2) ?_ | refine csp_t (q3) ?_ | refine csp_t (q4) ?_ | refine sda (hbd) ?_ | refine pickk0 ?_ | refine csp (fun h => ?_) (fun h => ?_) | refine conk hk2 ?_ | refine cllo (law_num _) (fun _ => ?_) | refine cll (law_num _) (fun _ => ?_) | refine cllo (hm) (fun _ => ?_) | refine cll (hm) (fun _ => ?_) | refine cllo (hlk) (fun _ => ?_) | refine cll (hlk) (fun _ => ?_) | refine cllo (lives) (fun _ => ?_) | refine cll (lives) (fun _ => ?_) | (refine sda ?_ ?_; (focus (first | rfl | exact of_decide_eq_true rfl | (simp; done)))) | refine sda ?_ ?_ | refine conk rfl ?_ | refine ldk rfl ?_ | refine mapk (fun x hx => ?_) | exact ⟨rfl, rfl⟩ | refine nilk (fun h => absurd h (of_decide_eq_false rfl)) ?_ | refine nilk (fun h => absurd h (List.cons_ne_nil _ _)) ?_ | refine nilk (fun h => ?_) ?_ | exact rfl | refine leftk1 rfl ?_ | refine bytk8 rfl ?_ | refine bytk rfl ?_ | exact leftk0 rfl | refine eqk rfl ?_ | refine fLm rfl ?_ | refine fLk (by assumption) ?_ | refine fVk ?_ | refine fLVk ?_ | refine fWk ?_ | intro hl))
              all_goals conv => whnf
theorem lookupNear_ret (l : List Int) (first v : Int) (hl : l.length * 8 ≤ 140737488351232 ∧ l.length ≤ 9223372036854775807 ∧ ∀ x ∈ l, IntKind.u64.wrap x = x) (h1 : IntKind.i64.wrap first = first) (h2 : IntKind.i64.wrap v = v) :
    Ret Try.prog F_octavolaw21_LookupNear [.row false (l.map fun n => [.int .u64 n]), .int .i64 first, .int .i64 v] (.bool true) := by
  have hlen : (uV l).length = l.length := List.length_map _
  by_cases h0 : l.length = 0
  · have d1 : decide (((uV l).length : Int) = 0) = true := decide_eq_true (by rw [hlen]; omega)
    refine r_octavolaw21_LookupNear rfl fun hw => ?_
    clear hw
    repeat' ((conv => whnf); (first | refine csp_t (d1) ?_ | refine pickk0 ?_ | refine csp (fun h => ?_) (fun h => ?_) | refine cllo (lives) (fun _ => ?_) | refine cll (lives) (fun _ => ?_) | (refine sda ?_ ?_; (focus (first | rfl | exact of_decide_eq_true rfl | (simp; done)))) | refine sda ?_ ?_ | refine conk rfl ?_ | refine ldk rfl ?_ | refine mapk (fun x hx => ?_) | exact ⟨rfl, rfl⟩ | refine nilk (fun h => absurd h (of_decide_eq_false rfl)) ?_ | refine nilk (fun h => absurd h (List.cons_ne_nil _ _)) ?_ | refine nilk (fun h => ?_) ?_ | exact rfl | refine leftk1 rfl ?_ | refine bytk8 rfl ?_ | refine bytk rfl ?_ | exact leftk0 rfl | refine eqk rfl ?_ | refine fLm rfl ?_ | refine fLk (by assumption) ?_ | refine fVk ?_ | refine fLVk ?_ | refine fWk ?_ | intro hl))
    all_goals conv => whnf
  · by_cases h60 : 60 < l.length
    · have d1 : decide (((uV l).length : Int) = 0) = false := decide_eq_false (by rw [hlen]; omega)
      have d2 : decide (((uV l).length : Int) > 60) = true := decide_eq_true (by rw [hlen]; omega)
      refine r_octavolaw21_LookupNear rfl fun hw => ?_
      clear hw
      repeat' ((conv => whnf); (first | refine csp_f (d1) ?_ | refine csp_t (d2) ?_ | refine pickk0 ?_ | refine csp (fun h => ?_) (fun h => ?_) | refine cllo (lives) (fun _ => ?_) | refine cll (lives) (fun _ => ?_) | (refine sda ?_ ?_; (focus (first | rfl | exact of_decide_eq_true rfl | (simp; done)))) | refine sda ?_ ?_ | refine conk rfl ?_ | refine ldk rfl ?_ | refine mapk (fun x hx => ?_) | exact ⟨rfl, rfl⟩ | refine nilk (fun h => absurd h (of_decide_eq_false rfl)) ?_ | refine nilk (fun h => absurd h (List.cons_ne_nil _ _)) ?_ | refine nilk (fun h => ?_) ?_ | exact rfl | refine leftk1 rfl ?_ | refine bytk8 rfl ?_ | refine bytk rfl ?_ | exact leftk0 rfl | refine eqk rfl ?_ | refine fLm rfl ?_ | refine fLk (by assumption) ?_ | refine fVk ?_ | refine fLVk ?_ | refine fWk ?_ | intro hl))
      all_goals conv => whnf
    · exact near_main l first v (by omega) (by omega) hl.2.2 h1 h2
end Go.Proofs.Ytkkfclpodgagdaa
