/- What the functions answer, and the law. -/
import Derived.Test.YtkkfclpodgagdaaR
import Derived.Test.YtkkfclpodgagdaaB
import Derived.Test.YtkkfclpodgagdaaPl
set_option maxRecDepth 100000
set_option linter.all false
namespace Go.Proofs.Ytkkfclpodgagdaa
open Ab R
theorem tz : (∀ (p : Prop) [Decidable p], (decide p = true) = p) ∧ (∀ (p : Prop) [Decidable p], (decide p = false) = ¬p) ∧ (∀ b : Bool, ((!b) = true) = (b = false)) ∧ (∀ b : Bool, ((!b) = false) = (b = true)) ∧
  (∀ (α β : Type) (f : α → β) (l : List α), (l.map f).length = l.length) ∧ (∀ a b : Int, (¬a < b) = (b ≤ a)) ∧ (∀ a b : Int, (¬a ≤ b) = (b < a)) ∧ (∀ (p : Prop) [Decidable p], (¬¬p) = p) ∧ (∀ (α : Type) [LT α] (a b : α), (a > b) = (b < a)) ∧ ∀ (α : Type) [LE α] (a b : α), (a ≥ b) = (b ≤ a) :=
 ⟨fun p _ => by simp, fun p _ => by simp, fun b => by simp, fun b => by simp, fun α β f l => by simp, fun a b => by simp, fun a b => by simp, fun p _ => by simp, fun α _ a b => rfl, fun α _ a b => rfl⟩
theorem cllo {P : Program} {g : FuncId} {args : List V} {r : V} {K : V → Prop} {B : Prop} (h : Ret P g args r) (k : wfV 8 r → K r) : (∃ r, Ret P g args r ∧ (wfV 8 r → K r)) ∨ B := .inl ⟨r, h, k⟩
theorem fLm {α : Type} {s : List O} {l : List α} {f : α → List Nat} {K : List O → Prop} (h : l.flatMap f = []) (k : K s) : fL fO (Ab.mark s (l.flatMap f)) K := by rw [fL_eq fO_eq, h]; exact k
theorem fVk {n : Nat} {v : V} {K : V → Prop} (h : K v) : fV n v K := by rw [fV_eq]; exact h
theorem fLVk {n : Nat} {l : List V} {K : List V → Prop} (h : K l) : fL (fV n) l K := by rw [fL_eq (fV_eq n)]; exact h
theorem fWk {n : Nat} {v : V} {K : V → Prop} (h : K v) : fW n v K := by rw [fW_eq]; exact h
theorem pickk : ∀ {cs : List Nat} {n : Nat} {K : Nat → Prop}, K n → pickN cs n K
 | [], _, _, h => h
 | c :: cs, n, K, h => by
  simp only [pickN]
  cases q : Nat.beq c n
  ·exact pickk h
  ·rw [Nat.eq_of_beq_eq_true q]; exact h
theorem pickk0 {cs : List Nat} {c n : Nat} {K : Nat → Prop} (h : K n) : pickN (c :: cs) n K := pickk h
structure Sv (s : List O) : Prop where
theorem fLk {s : List O} {K : List O → Prop} (_ : Sv s) (h : K s) : fL fO s K := by rw [fL_eq fO_eq]; exact h
theorem nilk {p A B : Prop} (a : p → A) (b : B) : (p → A) ∧ B := ⟨a, b⟩
theorem sda {p q : Prop} (h : p) (k : q) : Sd p ∧ q := ⟨⟨h⟩, k⟩
theorem conk {els : List (List V)} {i : Nat} {c : List V} {K : List V → Prop} (h : els[i]? = some c) (k : K c) : ∀ cs, els[i]? = some cs → K cs := fun cs hcs => by
 rw [h] at hcs
 rw [← Option.some.inj hcs]
 exact k
theorem ldk {o : Option V} {w : V} {K : V → Prop} (h : o = some w) (k : K w) : ∀ v, o = some v → K v := fun v hv => by
 rw [h] at hv
 rw [← Option.some.inj hv]
 exact k
theorem mapk {α : Type} {l : List α} {f : α → List V} {i : Nat} {K : List V → Prop} (h : ∀ x, l[i]? = some x → K (f x)) : ∀ cs, (l.map f)[i]? = some cs → K cs := fun cs hcs => by
 rw [List.getElem?_map] at hcs
 cases hx : l[i]? with
 | none => rw [hx] at hcs; cases hcs
 | some x => rw [hx] at hcs; obtain rfl := Option.some.inj hcs; exact h x hx
theorem eqk {α : Type} {o : Option α} {w : α} {K : α → Prop} (h : o = some w) (k : K w) : ∀ v, o = some v → K v := fun v hv => by
 rw [h] at hv
 rw [← Option.some.inj hv]
 exact k
theorem leftk1 {es : List (Nat × V × V)} {seen : List Nat} {a : Nat × V × V} {K : Nat × V × V → Prop} (h : leftM es seen = [a]) (k : K a) : ∀ y, y ∈ leftM es seen → K y := fun y hy => by
 rw [h, List.mem_singleton] at hy
 rw [hy]
 exact k
theorem leftk0 {es : List (Nat × V × V)} {seen : List Nat} {K : Nat × V × V → Prop} (h : leftM es seen = []) : ∀ y, y ∈ leftM es seen → K y := fun y hy => by
 rw [h] at hy
 cases hy
theorem bytk {els : List (List V)} {l : List Int} {K : List Int → Prop} (h : bytesV els = some l) (k : K l) : (∀ l, bytesV els = some l → K l) ∧ Sd ((bytesV els).isSome = true) := by
 refine ⟨fun l' hl => ?_, ⟨by rw [h]; rfl⟩⟩
 rw [h] at hl
 rw [← Option.some.inj hl]
 exact k
theorem bytk8 {els : List (List V)} {c : List UInt8} {K : List Int → Prop} (h : els = c.map fun c => [V.int .u8 c.toNat]) (k : K (c.map fun c => (c.toNat : Int))) : (∀ l, bytesV els = some l → K l) ∧ Sd ((bytesV els).isSome = true) :=
 bytk (h ▸ bytesV_map (fun c : UInt8 => (c.toNat : Int)) c) k
structure GV where
 k : Int
 n : Int
 s : ByteArray
abbrev cV (v : GV) : List V := [.int .i64 v.k, .int .i64 v.n, .str v.s]
abbrev eV (v : GV) : V := .agg (cV v)
structure Ar where
 rows : Int
 cols : Int
 l : List GV
 many : Bool
abbrev cA (a : Ar) : List V := [.int .i64 a.rows, .int .i64 a.cols, .row false (a.l.map cV), .bool a.many]
abbrev eA (a : Ar) : V := .agg (cA a)
abbrev e0 : ByteArray := ⟨#[]⟩
def badS (n : Int) : GV := ⟨4, if n < 1 ∨ n > 8 then 2 else n, e0⟩
theorem value_Bad (n : Int) : Ret Try.prog F_value_Bad [.int .i64 n] (eV (badS n)) := by
 refine r_value_Bad rfl fun _ => ?_
 ((conv => whnf); refine csp (fun h => ?_) (fun h => ?_))
 ·conv => whnf
  simp_all [badS]
 ·((conv => whnf); refine csp (fun h => ?_) (fun h => ?_))
  ·conv => whnf
   simp_all [badS]
  ·conv => whnf
   simp_all [badS]
   omega
def goodN (n : Int) : Bool := decide (-100000000000 ≤ n ∧ n ≤ 100000000000)
theorem num_Good (n : Int) : Ret Try.prog F_num_Good [.int .i64 n] (.bool (goodN n)) := by
 refine r_num_Good rfl fun _ => ?_
 ((conv => whnf); refine csp (fun h => ?_) (fun h => ?_))
 ·conv => whnf
  simp_all [goodN]
 ·conv => whnf
  simp_all [goodN]
  try omega
def ofS (n : Int) (ok : Bool) : GV := if ok && goodN n then ⟨1, n, e0⟩ else badS 5
theorem value_Of (n : Int) (ok : Bool) : Ret Try.prog F_value_Of [.int .i64 n, .bool ok] (eV (ofS n ok)) := by
 refine r_value_Of rfl fun _ => ?_
 ((conv => whnf); refine csp (fun h => ?_) (fun h => ?_))
 ·refine cllo (num_Good _) (fun _ => ?_)
  ((conv => whnf); refine csp (fun h => ?_) (fun h => ?_))
  ·conv => whnf
   simp_all [ofS]
  ·refine cllo (value_Bad _) (fun _ => ?_)
   conv => whnf
   simp_all [ofS]
 ·refine cllo (value_Bad _) (fun _ => ?_)
  conv => whnf
  simp_all [ofS]
def ownS (v : GV) : V :=
 if v.k = 0 then .iface 76 (.agg []) else if v.k = 1 then .iface 77 (.int .i64 v.n) else if v.k = 2 then .iface 79 (.str v.s)
 else if v.k = 3 then .iface 78 (.bool (!decide (v.n = 0))) else if v.k = 4 then .iface 82 (.int .i64 v.n) else .nilI
theorem value_own (v : GV) : Ret Try.prog F_value_own [eV v] (ownS v) := by
 refine r_value_own rfl fun _ => ?_
 ((conv => whnf); refine csp (fun h => ?_) (fun h => ?_))
 ·conv => whnf
  simp_all [ownS]
 ((conv => whnf); refine csp (fun h => ?_) (fun h => ?_))
 ·conv => whnf
  simp_all [ownS]
 ((conv => whnf); refine csp (fun h => ?_) (fun h => ?_))
 ·conv => whnf
  simp_all [ownS]
 ((conv => whnf); refine csp (fun h => ?_) (fun h => ?_))
 ·conv => whnf
  simp_all [ownS]
 ((conv => whnf); refine csp (fun h => ?_) (fun h => ?_))
 ·conv => whnf
  simp_all [ownS]
 conv => whnf
 simp_all [ownS]
def goodV (v : GV) : Bool :=
 if v.k = 0 then decide (v.n = 0 ∧ v.s = e0) else if v.k = 1 then goodN v.n && decide (v.s = e0) else if v.k = 2 then decide (v.n = 0 ∧ v.s.size ≤ 255)
 else if v.k = 3 then decide ((v.n = 0 ∨ v.n = 1) ∧ v.s = e0) else if v.k = 4 then decide (1 ≤ v.n ∧ v.n ≤ 8 ∧ v.s = e0) else false
theorem own0 {v : GV} (h : v.k = 0) : Ret Try.prog F_value_own [eV v] (.iface 76 (.agg [])) := by have := value_own v; simpa [ownS, h] using this
theorem own1 {v : GV} (h : v.k = 1) : Ret Try.prog F_value_own [eV v] (.iface 77 (.int .i64 v.n)) := by have := value_own v; simpa [ownS, h] using this
theorem own2 {v : GV} (h : v.k = 2) : Ret Try.prog F_value_own [eV v] (.iface 79 (.str v.s)) := by have := value_own v; simpa [ownS, h] using this
theorem own3 {v : GV} (h : v.k = 3) : Ret Try.prog F_value_own [eV v] (.iface 78 (.bool (!decide (v.n = 0)))) := by have := value_own v; simpa [ownS, h] using this
theorem own4 {v : GV} (h : v.k = 4) : Ret Try.prog F_value_own [eV v] (.iface 82 (.int .i64 v.n)) := by have := value_own v; simpa [ownS, h] using this
theorem own5 {v : GV} (h : ¬ v.k = 0) (h1 : ¬ v.k = 1) (h2 : ¬ v.k = 2) (h3 : ¬ v.k = 3) (h4 : ¬ v.k = 4) : Ret Try.prog F_value_own [eV v] .nilI := by have := value_own v; simpa [ownS, h, h1, h2, h3, h4] using this
theorem value_Good (v : GV) : Ret Try.prog F_value_Good [eV v] (.bool (goodV v)) := by
 obtain ⟨k, n, s⟩ := v
 by_cases h0 : k = 0
 ·subst h0
  refine r_value_Good rfl fun _ => ?_
  repeat' ((conv => whnf); (first | refine csp (fun h => ?_) (fun h => ?_) | refine cllo (own0 rfl) (fun _ => ?_) | refine cllo (num_Good _) (fun _ => ?_) | (refine sda ?_ ?_; (focus (first | rfl | (simp; done)))) | refine sda ?_ ?_ | refine conk rfl ?_ | refine ldk rfl ?_ | refine mapk (fun x hx => ?_) | exact ⟨rfl, rfl⟩ | refine nilk (fun h => ?_) ?_ | intro hl))
  all_goals conv => whnf
  all_goals simp_all [goodV]
 by_cases h1 : k = 1
 ·subst h1
  refine r_value_Good rfl fun _ => ?_
  repeat' ((conv => whnf); (first | refine csp (fun h => ?_) (fun h => ?_) | refine cllo (own1 rfl) (fun _ => ?_) | refine cllo (num_Good _) (fun _ => ?_) | (refine sda ?_ ?_; (focus (first | rfl | (simp; done)))) | refine sda ?_ ?_ | refine conk rfl ?_ | refine ldk rfl ?_ | refine mapk (fun x hx => ?_) | exact ⟨rfl, rfl⟩ | refine nilk (fun h => ?_) ?_ | intro hl))
  all_goals conv => whnf
  all_goals simp_all [goodV]
 by_cases h2 : k = 2
 ·subst h2
  refine r_value_Good rfl fun _ => ?_
  repeat' ((conv => whnf); (first | refine csp (fun h => ?_) (fun h => ?_) | refine cllo (own2 rfl) (fun _ => ?_) | refine cllo (num_Good _) (fun _ => ?_) | (refine sda ?_ ?_; (focus (first | rfl | (simp; done)))) | refine sda ?_ ?_ | refine conk rfl ?_ | refine ldk rfl ?_ | refine mapk (fun x hx => ?_) | exact ⟨rfl, rfl⟩ | refine nilk (fun h => ?_) ?_ | intro hl))
  all_goals conv => whnf
  all_goals simp_all [goodV]
  all_goals omega
 by_cases h3 : k = 3
 ·subst h3
  refine r_value_Good rfl fun _ => ?_
  repeat' ((conv => whnf); (first | refine csp (fun h => ?_) (fun h => ?_) | refine cllo (own3 rfl) (fun _ => ?_) | refine cllo (num_Good _) (fun _ => ?_) | (refine sda ?_ ?_; (focus (first | rfl | (simp; done)))) | refine sda ?_ ?_ | refine conk rfl ?_ | refine ldk rfl ?_ | refine mapk (fun x hx => ?_) | exact ⟨rfl, rfl⟩ | refine nilk (fun h => ?_) ?_ | intro hl))
  all_goals conv => whnf
  all_goals simp_all [goodV]
 by_cases h4 : k = 4
 ·subst h4
  refine r_value_Good rfl fun _ => ?_
  repeat' ((conv => whnf); (first | refine csp (fun h => ?_) (fun h => ?_) | refine cllo (own4 rfl) (fun _ => ?_) | refine cllo (num_Good _) (fun _ => ?_) | (refine sda ?_ ?_; (focus (first | rfl | (simp; done)))) | refine sda ?_ ?_ | refine conk rfl ?_ | refine ldk rfl ?_ | refine mapk (fun x hx => ?_) | exact ⟨rfl, rfl⟩ | refine nilk (fun h => ?_) ?_ | intro hl))
  all_goals conv => whnf
  all_goals simp_all [goodV]
  all_goals omega
 ·refine r_value_Good rfl fun _ => ?_
  repeat' ((conv => whnf); (first | refine csp (fun h => ?_) (fun h => ?_) | refine cllo (own5 h0 h1 h2 h3 h4) (fun _ => ?_) | (refine sda ?_ ?_; (focus (first | rfl | (simp; done)))) | refine sda ?_ ?_ | refine conk rfl ?_ | refine ldk rfl ?_ | refine mapk (fun x hx => ?_) | exact ⟨rfl, rfl⟩ | refine nilk (fun h => ?_) ?_ | intro hl))
  all_goals conv => whnf
  all_goals simp_all [goodV]
def toNumS (v : GV) : Int × Int := if v.k = 0 then (0, 0) else if v.k = 1 then (v.n, 0) else if v.k = 3 then (if v.n = 0 then 0 else 10000, 0) else if v.k = 4 then (0, v.n) else (0, 2)
theorem value_ToNum (v : GV) (h2 : ¬ v.k = 2) : Ret Try.prog F_value_ToNum [eV v] (.tup [.int .i64 (toNumS v).1, .int .i64 (toNumS v).2]) := by
 obtain ⟨k, n, s⟩ := v
 by_cases h0 : k = 0
 ·subst h0
  refine r_value_ToNum rfl fun _ => ?_
  repeat' ((conv => whnf); (first | refine csp (fun h => ?_) (fun h => ?_) | refine cllo (own0 rfl) (fun _ => ?_) | (refine sda ?_ ?_; (focus (first | rfl | (simp; done)))) | refine sda ?_ ?_ | refine conk rfl ?_ | refine ldk rfl ?_ | refine mapk (fun x hx => ?_) | exact ⟨rfl, rfl⟩ | refine nilk (fun h => ?_) ?_ | intro hl))
  all_goals conv => whnf
  all_goals simp_all [toNumS]
 by_cases h1 : k = 1
 ·subst h1
  refine r_value_ToNum rfl fun _ => ?_
  repeat' ((conv => whnf); (first | refine csp (fun h => ?_) (fun h => ?_) | refine cllo (own1 rfl) (fun _ => ?_) | (refine sda ?_ ?_; (focus (first | rfl | (simp; done)))) | refine sda ?_ ?_ | refine conk rfl ?_ | refine ldk rfl ?_ | refine mapk (fun x hx => ?_) | exact ⟨rfl, rfl⟩ | refine nilk (fun h => ?_) ?_ | intro hl))
  all_goals conv => whnf
  all_goals simp_all [toNumS]
 by_cases h3 : k = 3
 ·subst h3
  refine r_value_ToNum rfl fun _ => ?_
  repeat' ((conv => whnf); (first | refine csp (fun h => ?_) (fun h => ?_) | refine cllo (own3 rfl) (fun _ => ?_) | (refine sda ?_ ?_; (focus (first | rfl | (simp; done)))) | refine sda ?_ ?_ | refine conk rfl ?_ | refine ldk rfl ?_ | refine mapk (fun x hx => ?_) | exact ⟨rfl, rfl⟩ | refine nilk (fun h => ?_) ?_ | intro hl))
  all_goals conv => whnf
  all_goals simp_all [toNumS]
 by_cases h4 : k = 4
 ·subst h4
  refine r_value_ToNum rfl fun _ => ?_
  repeat' ((conv => whnf); (first | refine csp (fun h => ?_) (fun h => ?_) | refine cllo (own4 rfl) (fun _ => ?_) | (refine sda ?_ ?_; (focus (first | rfl | (simp; done)))) | refine sda ?_ ?_ | refine conk rfl ?_ | refine ldk rfl ?_ | refine mapk (fun x hx => ?_) | exact ⟨rfl, rfl⟩ | refine nilk (fun h => ?_) ?_ | intro hl))
  all_goals conv => whnf
  all_goals simp_all [toNumS]
 ·refine r_value_ToNum rfl fun _ => ?_
  repeat' ((conv => whnf); (first | refine csp (fun h => ?_) (fun h => ?_) | refine cllo (own5 h0 h1 h2 h3 h4) (fun _ => ?_) | (refine sda ?_ ?_; (focus (first | rfl | (simp; done)))) | refine sda ?_ ?_ | refine conk rfl ?_ | refine ldk rfl ?_ | refine mapk (fun x hx => ?_) | exact ⟨rfl, rfl⟩ | refine nilk (fun h => ?_) ?_ | intro hl))
  all_goals conv => whnf
  all_goals simp_all [toNumS]
def goodA (a : Ar) : Bool := decide (1 ≤ a.rows ∧ 1 ≤ a.cols ∧ a.rows ≤ 4096 ∧ a.cols ≤ 4096 ∧ (a.l.length : Int) = a.rows * a.cols) && a.l.all goodV
theorem take_good {l : List GV} {i : Nat} {x : GV} {p : GV → Bool} (hx : l[i]? = some x) (h : (l.take i).all p = true) (hp : p x = true) : (l.take (i + 1)).all p = true := by
 rw [List.take_add_one, hx]
 simp only [Option.toList, List.all_append, h, List.all_cons, hp, List.all_nil, Bool.and_self]
theorem w64 {n : Int} (h : -9223372036854775808 ≤ n ∧ n ≤ 9223372036854775807) : IntKind.i64.wrap n = n := (wrap_iff .i64 n).2 (by simp only [kLo, kHi]; omega)
theorem mulb {r c : Int} (h1 : 1 ≤ r) (h2 : r ≤ 4096) (h3 : 1 ≤ c) (h4 : c ≤ 4096) : 1 ≤ r * c ∧ r * c ≤ 16777216 :=
 ⟨by have := Int.mul_le_mul h1 h3 (by omega) (by omega); omega, by have := Int.mul_le_mul h2 h4 (by omega) (by omega); omega⟩
theorem goodA_no {a : Ar} {i : Nat} {x : GV} (hx : a.l[i]? = some x) (h : goodV x = false) : goodA a = false := by
 unfold goodA
 rw [Bool.and_eq_false_iff]
 right
 rw [List.all_eq_false]
 exact ⟨x, List.mem_of_getElem? hx, by simp [h]⟩
theorem goodA_bad {a : Ar} (h : ¬ (1 ≤ a.rows ∧ 1 ≤ a.cols ∧ a.rows ≤ 4096 ∧ a.cols ≤ 4096 ∧ (a.l.length : Int) = a.rows * a.cols)) : goodA a = false := by
 unfold goodA
 rw [decide_eq_false h, Bool.false_and]
theorem goodA_yes {a : Ar} (h : 1 ≤ a.rows ∧ 1 ≤ a.cols ∧ a.rows ≤ 4096 ∧ a.cols ≤ 4096 ∧ (a.l.length : Int) = a.rows * a.cols) (hl : a.l.all goodV = true) : goodA a = true := by
 unfold goodA
 rw [decide_eq_true h, hl, Bool.true_and]
theorem maths_Good (a : Ar) : Ret Try.prog F_maths_Good [eA a] (.bool (goodA a)) := by
 refine r_maths_Good rfl fun hw => ?_
 clear hw
 repeat' ((conv => whnf); (first | refine csp (fun h => ?_) (fun h => ?_) | (refine sda ?_ ?_; (focus (first | rfl | (simp; done)))) | refine sda ?_ ?_ | refine conk rfl ?_ | refine ldk rfl ?_ | refine mapk (fun x hx => ?_) | exact ⟨rfl, rfl⟩ | refine nilk (fun h => ?_) ?_ | intro hl))
 rotate_right
 ·try simp only [tz] at *
  have hm := mulb (r := a.rows) (c := a.cols) (by omega) (by omega) (by omega) (by omega)
  have hL : (a.l.length : Int) = a.rows * a.cols := by
   have := w64 (n := a.rows * a.cols) (by omega)
   omega
  refine .inl ⟨Int, [35, 36, 37], [], fun i => [(35, .row false (a.l.map cV)), (36, .int .i64 a.l.length), (37, .int .i64 i)], fun _ => [], fun i => 0 ≤ i ∧ i ≤ a.l.length ∧ (a.l.take i.toNat).all goodV = true, fun i => (a.l.length - i).toNat, rfl, ?_, fun i hi => ?_⟩
  ·exact ⟨0, rfl, rfl, by simp⟩
  ·obtain ⟨hi0, hi1, hi2⟩ := hi
   repeat' ((conv => whnf); (first | refine csp (fun h => ?_) (fun h => ?_) | refine cllo (value_Good _) (fun _ => ?_) | (refine sda ?_ ?_; (focus (first | rfl | (simp; done)))) | refine sda ?_ ?_ | refine conk rfl ?_ | refine ldk rfl ?_ | refine mapk (fun x hx => ?_) | exact ⟨rfl, rfl⟩ | refine nilk (fun h => ?_) ?_ | intro hl))
   ·try simp only [tz] at *
    omega
   ·conv => whnf
    rw [goodA_no hx (by simpa using h)]
   ·conv => whnf
    try simp only [tz] at *
    have hw1 := w64 (n := i + 1) (by omega)
    refine ⟨i + 1, by rw [hw1], by trivial, ⟨by omega, by omega, ?_⟩, by omega⟩
    rw [show (i + 1).toNat = i.toNat + 1 by omega]
    exact take_good hx hi2 h
   ·conv => whnf
    try simp only [tz] at *
    rw [goodA_yes (by omega)]
    have : a.l.take i.toNat = a.l := List.take_of_length_le (by omega)
    rwa [this] at hi2
 all_goals conv => whnf
 all_goals try simp only [tz] at *
 ·rw [goodA_bad (by omega)]
 ·rw [goodA_bad (by omega)]
 ·rw [goodA_bad (by omega)]
 ·rw [goodA_bad (by omega)]
 ·have hm := mulb (r := a.rows) (c := a.cols) (by omega) (by omega) (by omega) (by omega)
  rw [w64 (by omega)] at h
  rw [goodA_bad (by omega)]
end Go.Proofs.Ytkkfclpodgagdaa
set_option maxRecDepth 100000
set_option linter.all false
namespace Go.Proofs.Ytkkfclpodgagdaa
open Ab R
def oneS (a : Ar) : GV := if a.l.length = 1 ∧ goodA a = true then a.l.headD ⟨0, 0, e0⟩ else badS 2
theorem maths_One (a : Ar) : Ret Try.prog F_maths_One [eA a] (eV (oneS a)) := by
 refine r_maths_One rfl fun hw => ?_
 clear hw
 repeat' ((conv => whnf); (first | refine csp (fun h => ?_) (fun h => ?_) | refine cllo (maths_Good _) (fun _ => ?_) | refine cllo (value_Bad _) (fun _ => ?_) | (refine sda ?_ ?_; (focus (first | rfl | (simp; done)))) | refine sda ?_ ?_ | refine conk rfl ?_ | refine ldk rfl ?_ | refine mapk (fun x hx => ?_) | exact ⟨rfl, rfl⟩ | refine nilk (fun h => ?_) ?_ | intro hl))
 all_goals conv => whnf
 all_goals try simp only [tz] at *
 ·rw [oneS, if_neg (fun q => by omega)]
 ·rw [oneS, if_neg (by rw [h]; simp)]
 ·omega
 ·obtain ⟨r, c, l, m⟩ := a
  cases l with
  | nil => cases hx
  | cons y l =>
   cases hx
   rw [oneS, if_pos ⟨by omega, h⟩]
   rfl
def wholeS (n : Int) : Int × Bool := if goodN n = true ∧ n.tmod 10000 = 0 then (n.tdiv 10000, true) else (0, false)
theorem tdivb {n : Int} (h : goodN n = true) : -10000000 ≤ n.tdiv 10000 ∧ n.tdiv 10000 ≤ 10000000 := by
 simp only [goodN, decide_eq_true_eq] at h
 rw [Int.tdiv_eq_ediv]
 split
 ·omega
 ·simp only [show Int.sign 10000 = 1 from rfl]
  omega
theorem i64b {i : Int} (h : wfV 8 (.int .i64 i)) : -9223372036854775808 ≤ i ∧ i ≤ 9223372036854775807 := by
 have := (wrap_iff .i64 i).1 h
 exact this
theorem num_Whole (n : Int) : Ret Try.prog F_num_Whole [.int .i64 n] (.tup [.int .i64 (wholeS n).1, .bool (wholeS n).2]) := by
 refine r_num_Whole rfl fun hw => ?_
 clear hw
 repeat' ((conv => whnf); (first | refine csp (fun h => ?_) (fun h => ?_) | refine cllo (num_Good _) (fun _ => ?_) | (refine sda ?_ ?_; (focus (first | rfl | (simp; done)))) | refine sda ?_ ?_ | refine conk rfl ?_ | refine ldk rfl ?_ | refine mapk (fun x hx => ?_) | exact ⟨rfl, rfl⟩ | refine nilk (fun h => ?_) ?_ | intro hl))
 all_goals conv => whnf
 all_goals try simp only [tz] at *
 ·rw [wholeS, if_neg (by simp [h])]
 ·rw [wholeS, if_neg (fun q => h q.2)]
 ·have h1 : goodN n = true := by assumption
  have := tdivb h1
  rw [wholeS, if_pos ⟨h1, h⟩, w64 (by omega)]
theorem goodA_out {a : Ar} (h : goodA a = true) : (1 ≤ a.rows ∧ 1 ≤ a.cols ∧ a.rows ≤ 4096 ∧ a.cols ≤ 4096 ∧ (a.l.length : Int) = a.rows * a.cols) ∧ a.l.all goodV = true := by
 unfold goodA at h
 simp only [Bool.and_eq_true, decide_eq_true_eq] at h
 exact h
theorem bytesb {a b : Nat} (h1 : a ≤ 11) (h2 : Nat.ble b 1000 = true) : Nat.le (a * b) 140737488355327 := by
 have := Nat.le_of_ble_eq_true h2
 have := Nat.mul_le_mul h1 this
 show a * b ≤ 140737488355327
 omega
end Go.Proofs.Ytkkfclpodgagdaa
set_option maxRecDepth 100000
set_option linter.all false
namespace Go.Proofs.Ytkkfclpodgagdaa
open Ab R
theorem goodV_size {v : GV} (h : goodV v = true) : v.s.size ≤ 255 := by
 unfold goodV at h
 split at h
 ·simp only [decide_eq_true_eq] at h; rw [h.2]; decide
 ·split at h
  ·simp only [Bool.and_eq_true, decide_eq_true_eq] at h; rw [h.2]; decide
  ·split at h
   ·simp only [decide_eq_true_eq] at h; exact h.2
   ·split at h
    ·simp only [decide_eq_true_eq] at h; rw [h.2]; decide
    ·split at h
     ·simp only [decide_eq_true_eq] at h; rw [h.2.2]; decide
     ·cases h
end Go.Proofs.Ytkkfclpodgagdaa
set_option maxRecDepth 100000
set_option linter.all false
namespace Go.Proofs.Ytkkfclpodgagdaa
open Ab R
theorem ref05_Good (n : Int) : Ret Try.prog F_octavoref05_Good [.int .i64 n] (.bool (goodN n)) := by
 refine r_octavoref05_Good rfl fun _ => ?_
 repeat' ((conv => whnf); (first | refine csp (fun h => ?_) (fun h => ?_) | (refine sda ?_ ?_; (focus (first | rfl | (simp; done)))) | refine sda ?_ ?_ | refine conk rfl ?_ | refine ldk rfl ?_ | refine mapk (fun x hx => ?_) | exact ⟨rfl, rfl⟩ | refine nilk (fun h => ?_) ?_ | intro hl))
 all_goals conv => whnf
 all_goals simp_all [goodN]
 all_goals omega
theorem ref06_Good (v : GV) : Ret Try.prog F_octavoref06_Good [eV v] (.bool (goodV v)) := by
 refine r_octavoref06_Good rfl fun hw => ?_
 clear hw
 repeat' ((conv => whnf); (first | refine csp (fun h => ?_) (fun h => ?_) | refine cllo (ref05_Good _) (fun _ => ?_) | (refine sda ?_ ?_; (focus (first | rfl | (simp; done)))) | refine sda ?_ ?_ | refine conk rfl ?_ | refine ldk rfl ?_ | refine mapk (fun x hx => ?_) | exact ⟨rfl, rfl⟩ | refine nilk (fun h => ?_) ?_ | intro hl))
 all_goals conv => whnf
 all_goals simp_all [goodV]
 all_goals omega
theorem fold_take {α β : Type} {f : β → α → β} {b : β} {l : List α} {i : Nat} {x : α} (hx : l[i]? = some x) : (l.take (i + 1)).foldl f b = f ((l.take i).foldl f b) x := by
 rw [List.take_add_one, hx]
 simp [List.foldl_append]
end Go.Proofs.Ytkkfclpodgagdaa
set_option maxRecDepth 100000
set_option linter.all false
namespace Go.Proofs.Ytkkfclpodgagdaa
open Ab R
theorem lookup_whole (k : Int) : Ret Try.prog F_lookup_whole [.int .i64 k] (eV (ofS (IntKind.i64.wrap (k * 10000)) true)) := by
 refine r_lookup_whole rfl fun hw => ?_
 repeat' ((conv => whnf); (first | refine csp (fun h => ?_) (fun h => ?_) | refine cllo (value_Of _ _) (fun _ => ?_) | (refine sda ?_ ?_; (focus (first | rfl | (simp; done)))) | refine sda ?_ ?_ | refine conk rfl ?_ | refine ldk rfl ?_ | refine mapk (fun x hx => ?_) | exact ⟨rfl, rfl⟩ | refine nilk (fun h => ?_) ?_ | intro hl))
 all_goals conv => whnf
def intsS (v : GV) : Int × Int := if 0 < (toNumS v).2 then (0, (toNumS v).2) else if (wholeS (toNumS v).1).2 = true then ((wholeS (toNumS v).1).1, 0) else (0, 5)
theorem lookup_ints (a : Ar) (h2 : ¬ (oneS a).k = 2) : Ret Try.prog F_lookup_ints [eA a] (.tup [.int .i64 (intsS (oneS a)).1, .int .i64 (intsS (oneS a)).2]) := by
 refine r_lookup_ints rfl fun hw => ?_
 clear hw
 repeat' ((conv => whnf); (first | refine csp (fun h => ?_) (fun h => ?_) | refine cllo (maths_One _) (fun _ => ?_) | refine cllo (value_ToNum _ h2) (fun _ => ?_) | refine cllo (num_Whole _) (fun _ => ?_) | (refine sda ?_ ?_; (focus (first | rfl | (simp; done)))) | refine sda ?_ ?_ | refine conk rfl ?_ | refine ldk rfl ?_ | refine mapk (fun x hx => ?_) | exact ⟨rfl, rfl⟩ | refine nilk (fun h => ?_) ?_ | intro hl))
 all_goals conv => whnf
 all_goals try simp only [tz] at *
 ·rw [intsS, if_pos h]
 ·rw [intsS, if_neg (by omega), if_neg (by simp [h])]
 ·rw [intsS, if_neg (by omega), if_pos h]
theorem grid_line (a : Ar) : Ret Try.prog F_lookup_grid_line [eA a] (.bool (decide (a.rows = 1 ∨ a.cols = 1))) := by
 refine r_lookup_grid_line rfl fun hw => ?_
 clear hw
 repeat' ((conv => whnf); (first | refine csp (fun h => ?_) (fun h => ?_) | (refine sda ?_ ?_; (focus (first | rfl | (simp; done)))) | refine sda ?_ ?_ | refine conk rfl ?_ | refine ldk rfl ?_ | refine mapk (fun x hx => ?_) | exact ⟨rfl, rfl⟩ | refine nilk (fun h => ?_) ?_ | intro hl))
 all_goals conv => whnf
 all_goals simp_all
theorem grid_nth (a : Ar) (i : Int) (v : GV) (hi : 1 ≤ i) (hv : a.l[(i - 1).toNat]? = some v) : Ret Try.prog F_lookup_grid_nth [eA a, .int .i64 i] (eV v) := by
 refine r_lookup_grid_nth rfl fun hw => ?_
 have hb := i64b (hw (.int .i64 i) (by simp))
 clear hw
 have hlt := (List.getElem?_eq_some_iff.1 hv).1
 have hw1 := w64 (n := i - 1) (by omega)
 repeat' ((conv => whnf); (first | refine csp (fun h => ?_) (fun h => ?_) | (refine sda ?_ ?_; (focus (first | rfl | (simp; done)))) | refine sda ?_ ?_ | refine conk rfl ?_ | refine ldk rfl ?_ | refine mapk (fun x hx => ?_) | exact ⟨rfl, rfl⟩ | refine nilk (fun h => ?_) ?_ | intro hl))
 all_goals conv => whnf
 all_goals try simp only [tz] at *
 ·rw [hw1]
  omega
 ·rw [hw1] at hx
  rw [hx] at hv
  rw [Option.some.inj hv]
def atS (a : Ar) (r c : Int) : GV := if r < 1 ∨ r > a.rows ∨ c < 1 ∨ c > a.cols then badS 3 else (a.l[((r - 1) * a.cols + c - 1).toNat]?).getD ⟨0, 0, e0⟩
theorem at_in {r c m n : Int} (h1 : 1 ≤ r) (h2 : r ≤ m) (h3 : 1 ≤ c) (h4 : c ≤ n) (h5 : m ≤ 4096) (h6 : n ≤ 4096) : 0 ≤ (r - 1) * n ∧ (r - 1) * n + n ≤ m * n ∧ m * n ≤ 16777216 := by
 refine ⟨Int.mul_nonneg (by omega) (by omega), ?_, (mulb (by omega) h5 (by omega) h6).2⟩
 have : (r - 1) * n + n = r * n := by rw [Int.sub_mul]; omega
 rw [this]
 exact Int.mul_le_mul_of_nonneg_right h2 (by omega)
theorem grid_at (a : Ar) (r c : Int) (hg : goodA a = true) : Ret Try.prog F_lookup_grid_at [eA a, .int .i64 r, .int .i64 c] (eV (atS a r c)) := by
 refine r_lookup_grid_at rfl fun hw => ?_
 clear hw
 obtain ⟨⟨g1, g2, g3, g4, g5⟩, _⟩ := goodA_out hg
 repeat' ((conv => whnf); (first | refine csp (fun h => ?_) (fun h => ?_) | refine cllo (value_Bad _) (fun _ => ?_) | (refine sda ?_ ?_; (focus (first | rfl | (simp; done)))) | refine sda ?_ ?_ | refine conk rfl ?_ | refine ldk rfl ?_ | refine mapk (fun x hx => ?_) | exact ⟨rfl, rfl⟩ | refine nilk (fun h => ?_) ?_ | intro hl))
 all_goals conv => whnf
 all_goals try simp only [tz] at *
 ·rw [atS, if_pos (by omega)]
 ·rw [atS, if_pos (by omega)]
 ·rw [atS, if_pos (by omega)]
 ·rw [atS, if_pos (by omega)]
 ·have := at_in (r := r) (c := c) (m := a.rows) (n := a.cols) (by omega) (by omega) (by omega) (by omega) g3 g4
  rw [w64 (n := r - 1) (by omega), w64 (n := (r - 1) * a.cols) (by omega), w64 (n := (r - 1) * a.cols + c) (by omega), w64 (by omega)]
  omega
 ·have := at_in (r := r) (c := c) (m := a.rows) (n := a.cols) (by omega) (by omega) (by omega) (by omega) g3 g4
  rw [w64 (n := r - 1) (by omega), w64 (n := (r - 1) * a.cols) (by omega), w64 (n := (r - 1) * a.cols + c) (by omega), w64 (by omega)] at hx
  rw [atS, if_neg (by omega), hx]
  rfl
theorem take_all {l : List Ar} {n : Nat} {x : Ar} {p : Ar → Bool} (hx : l[n]? = some x) (h : (l.take n).all p = true) (hp : p x = true) : (l.take (n + 1)).all p = true := by
 rw [List.take_add_one, hx]
 simp only [Option.toList, List.all_append, h, List.all_cons, hp, List.all_nil, Bool.and_self]
theorem all_no {l : List Ar} {n : Nat} {x : Ar} {p : Ar → Bool} (hx : l[n]? = some x) (hp : p x = false) : l.all p = false := by
 rw [List.all_eq_false]
 exact ⟨x, List.mem_of_getElem? hx, by simp [hp]⟩
def goodsS (l : List Ar) : List Ar := if l.all goodA = true then l else []
theorem goods_no {l : List Ar} {n : Nat} {x : Ar} (hx : l[n]? = some x) (hp : goodA x = false) : goodsS l = [] := by
 rw [goodsS, if_neg (by rw [all_no hx hp]; decide)]
theorem lookup_goods (l : List Ar) (hs : l.length ≤ 10) : Ret Try.prog F_lookup_goods [.row false (l.map cA)] (.tup [.row false ((goodsS l).map cA), .bool (l.all goodA)]) := by
 refine r_lookup_goods rfl fun hw => ?_
 clear hw
 repeat' ((conv => whnf); (first | refine csp (fun h => ?_) (fun h => ?_) | (refine sda ?_ ?_; (focus (first | rfl | (simp; done)))) | refine sda ?_ ?_ | refine conk rfl ?_ | refine ldk rfl ?_ | refine mapk (fun x hx => ?_) | exact ⟨rfl, rfl⟩ | refine nilk (fun h => ?_) ?_ | intro hl))
 refine .inl ⟨Nat, [4, 7, 8, 9], [2], fun n => [(4, match n with | 0 => .row true [] | n + 1 => .sl 0 0 (n + 1)), (7, .row false (l.map cA)), (8, .int .i64 (l.map cA).length), (9, .int .i64 n)], fun n => [match n with | 0 => .gone | n + 1 => .arr true 4 ((l.take (n + 1)).map cA)], fun n => n ≤ l.length ∧ (l.take n).all goodA = true, fun n => l.length - n, rfl, ?_, fun n hn => ?_⟩
 ·exact ⟨0, rfl, rfl, by simp⟩
 ·obtain ⟨hn1, hn2⟩ := hn
  cases n with
  | zero =>
   repeat' ((conv => whnf); (first | refine csp (fun h => ?_) (fun h => ?_) | refine cllo (maths_Good _) (fun _ => ?_) | (refine sda ?_ ?_; (focus (first | rfl | (simp; done)))) | refine sda ?_ ?_ | refine conk rfl ?_ | refine ldk rfl ?_ | refine mapk (fun x hx => ?_) | exact ⟨rfl, rfl⟩ | refine nilk (fun h => ?_) ?_ | intro hl))
   ·try simp only [tz] at *
    omega
   ·conv => whnf
    rw [goods_no hx (by simpa using h), all_no hx (by simpa using h)]
    rfl
   ·have hl : _ ∈ [cA x] := hl
    rw [List.mem_singleton.1 hl]
    rfl
   ·exact Nat.le_of_ble_eq_true (by kernel_rfl)
   ·conv => whnf
    have hx' : l[0]? = some x := hx
    have h1 : l.take 1 = [x] := by rw [List.take_add_one, hx']; rfl
    have hlt := (List.getElem?_eq_some_iff.1 hx').1
    refine ⟨1, rfl, ?_, ⟨by omega, ?_⟩, by simp only; omega⟩
    ·show [O.arr true 4 [cA x]] = [O.arr true 4 ((l.take 1).map cA)]
     rw [h1]
     rfl
    ·exact take_all hx' hn2 (by simpa using h)
   ·conv => whnf
    try simp only [tz] at *
    obtain rfl : l = [] := List.eq_nil_of_length_eq_zero (by omega)
    rfl
  | succ n =>
   repeat' ((conv => whnf); (first | refine csp (fun h => ?_) (fun h => ?_) | refine cllo (maths_Good _) (fun _ => ?_) | (refine sda ?_ ?_; (focus (first | rfl | (simp; done)))) | refine sda ?_ ?_ | refine conk rfl ?_ | refine ldk rfl ?_ | refine mapk (fun x hx => ?_) | exact ⟨rfl, rfl⟩ | refine nilk (fun h => ?_) ?_ | intro hl))
   ·try simp only [tz] at *
    omega
   ·conv => whnf
    rw [goods_no hx (by simpa using h), all_no hx (by simpa using h)]
    rfl
   ·conv => whnf
    rw [List.length_map, List.length_take]
    omega
   ·have hl : _ ∈ [cA x] := hl
    rw [List.mem_singleton.1 hl]
    rfl
   ·rename_i e he c
    have he : e ∈ [cA x] := he
    rw [List.mem_singleton.1 he] at hl
    simp only [cA, List.mem_cons, List.not_mem_nil, or_false] at hl
    rcases hl with rfl | rfl | rfl | rfl <;> rfl
   ·refine bytesb ?_ (by kernel_rfl)
    show (List.map cA (List.take (n + 1) l)).length + 1 ≤ 11
    rw [List.length_map, List.length_take]
    omega
   ·conv => whnf
    have hx' : l[n + 1]? = some x := hx
    have hlt := (List.getElem?_eq_some_iff.1 hx').1
    have hln : (List.map cA (List.take (n + 1) l)).length = n + 1 := by rw [List.length_map, List.length_take]; omega
    have h1 : l.take (n + 1 + 1) = l.take (n + 1) ++ [x] := by rw [List.take_add_one (i := n + 1), hx']; rfl
    refine ⟨n + 2, ?_, ?_, ⟨by omega, take_all hx' hn2 (by simpa using h)⟩, by simp only; omega⟩
    ·show [(4, V.sl 0 0 ((List.map cA (List.take (n + 1) l)).length + 1)), (7, V.row false (List.map cA l)), (8, V.int IntKind.i64 (List.map cA l).length), (9, V.int IntKind.i64 (IntKind.i64.wrap (((n + 1 : Nat) : Int) + 1)))] = [(4, V.sl 0 0 (n + 1 + 1)), (7, V.row false (List.map cA l)), (8, V.int IntKind.i64 (List.map cA l).length), (9, V.int IntKind.i64 ((n + 1 + 1 : Nat) : Int))]
     rw [hln, w64 (by omega)]
     rfl
    ·show [O.arr true 4 (List.map cA (List.take (n + 1) l) ++ [cA x])] = [O.arr true 4 ((l.take (n + 1 + 1)).map cA)]
     rw [h1, List.map_append]
     rfl
   ·conv => whnf
    try simp only [tz] at *
    have hn3 : n + 1 = l.length := by omega
    have h1 : l.take (n + 1) = l := by rw [hn3]; exact List.take_length
    rw [h1] at hn2 ⊢
    rw [hn2, goodsS, if_pos hn2, List.drop_zero, List.take_of_length_le (by rw [List.length_map]; omega)]
end Go.Proofs.Ytkkfclpodgagdaa
set_option maxRecDepth 100000
set_option linter.all false
namespace Go.Proofs.Ytkkfclpodgagdaa
open Ab R
theorem value_order (b : Bool) : Ret Try.prog F_value_order [.bool b] (.int .i64 (if b then -1 else 1)) := by
 refine r_value_order rfl fun hw => ?_
 clear hw
 repeat' ((conv => whnf); (first | refine csp (fun h => ?_) (fun h => ?_) | (refine sda ?_ ?_; (focus (first | rfl | (simp; done)))) | refine sda ?_ ?_ | refine conk rfl ?_ | refine ldk rfl ?_ | refine mapk (fun x hx => ?_) | exact ⟨rfl, rfl⟩ | refine nilk (fun h => ?_) ?_ | intro hl))
 all_goals conv => whnf
 all_goals simp_all
theorem cmp_num1 (v w : GV) (h : v.k = 1) : Ret Try.prog F_value_Cmp_1 [eV v, eV w] (.tup [.int .i64 1, .int .i64 v.n, .str e0]) := by
 obtain ⟨k, n, s⟩ := v
 simp only at h
 subst h
 refine r_value_Cmp_1 rfl fun hw => ?_
 clear hw
 repeat' ((conv => whnf); (first | refine csp (fun h => ?_) (fun h => ?_) | (refine sda ?_ ?_; (focus (first | rfl | (simp; done)))) | refine sda ?_ ?_ | refine conk rfl ?_ | refine ldk rfl ?_ | refine mapk (fun x hx => ?_) | exact ⟨rfl, rfl⟩ | refine nilk (fun h => ?_) ?_ | intro hl))
 all_goals conv => whnf
def cmpI (k x : Int) : Int := if k < x then -1 else if k = x then 0 else 1
theorem cmp_num (v w : GV) (h : v.k = 1) (h2 : w.k = 1) : Ret Try.prog F_value_Cmp [eV v, eV w] (.int .i64 (cmpI v.n w.n)) := by
 unfold cmpI
 refine r_value_Cmp rfl fun hw => ?_
 clear hw
 repeat' ((conv => whnf); (first | refine csp (fun h => ?_) (fun h => ?_) | refine cllo (cmp_num1 v w h) (fun _ => ?_) | refine cllo (cmp_num1 w v h2) (fun _ => ?_) | refine cllo (value_order _) (fun _ => ?_) | (refine sda ?_ ?_; (focus (first | rfl | (simp; done)))) | refine sda ?_ ?_ | refine conk rfl ?_ | refine ldk rfl ?_ | refine mapk (fun x hx => ?_) | exact ⟨rfl, rfl⟩ | refine nilk (fun h => ?_) ?_ | intro hl))
 all_goals conv => whnf
 all_goals try simp only [tz] at *
 ·split <;> simp_all
 ·rw [if_neg (by omega), if_pos h]
theorem law_one (v : GV) : Ret Try.prog F_octavolaw21_one [eV v] (eA ⟨1, 1, [v], false⟩) := by
 refine r_octavolaw21_one rfl fun hw => ?_
 clear hw
 repeat' ((conv => whnf); (first | refine csp (fun h => ?_) (fun h => ?_) | (refine sda ?_ ?_; (focus (first | rfl | (simp; done)))) | refine sda ?_ ?_ | refine conk rfl ?_ | refine ldk rfl ?_ | refine mapk (fun x hx => ?_) | exact ⟨rfl, rfl⟩ | refine nilk (fun h => ?_) ?_ | intro hl))
 all_goals conv => whnf
 all_goals rfl
theorem law_number (n : Int) : Ret Try.prog F_octavolaw21_number [.int .i64 n] (eA ⟨1, 1, [⟨1, n, e0⟩], false⟩) := by
 refine r_octavolaw21_number rfl fun hw => ?_
 clear hw
 repeat' ((conv => whnf); (first | refine csp (fun h => ?_) (fun h => ?_) | refine cllo (law_one ⟨1, n, e0⟩) (fun _ => ?_) | (refine sda ?_ ?_; (focus (first | rfl | (simp; done)))) | refine sda ?_ ?_ | refine conk rfl ?_ | refine ldk rfl ?_ | refine mapk (fun x hx => ?_) | exact ⟨rfl, rfl⟩ | refine nilk (fun h => ?_) ?_ | intro hl))
 all_goals conv => whnf
def scanS (how x : Int) : List GV → Int → Int → Int × Int
 | [], _, found => if found = 0 then (0, 6) else (found, 0)
 | k :: ks, i, found => if how = 0 ∧ cmpI k.n x = 0 then (i, 0) else if cmpI k.n x * how > 0 then (if found = 0 then (0, 6) else (found, 0)) else scanS how x ks (i + 1) (if how = 0 then found else i)
theorem match_nth (x g : Ar) (n how X : Int) (s : ByteArray) (hx : oneS x = ⟨1, X, s⟩) (hn : n = g.l.length) (hk : ∀ k ∈ g.l, k.k = 1) (hh : -1 ≤ how ∧ how ≤ 1) (hb : n ≤ 16777216) :
  Ret Try.prog F_lookup_match [eA x, .int .i64 n, .fn F_lookup_grid_nth [eA g] [], .int .i64 how] (.tup [.int .i64 (scanS how X g.l 1 0).1, .int .i64 (scanS how X g.l 1 0).2]) := by
 have h1 := maths_One x
 rw [hx] at h1
 refine r_lookup_match rfl fun hw => ?_
 clear hw
 repeat' ((conv => whnf); (first | refine csp (fun h => ?_) (fun h => ?_) | refine cllo (h1) (fun _ => ?_) | (refine sda ?_ ?_; (focus (first | rfl | (simp; done)))) | refine sda ?_ ?_ | refine conk rfl ?_ | refine ldk rfl ?_ | refine mapk (fun x hx => ?_) | exact ⟨rfl, rfl⟩ | refine nilk (fun h => ?_) ?_ | intro hl))
 conv => whnf
 refine .inl ⟨Int, [1, 2, 3, 10, 11, 12], [0, 1], fun i => [(1, .int .i64 n), (2, .fn F_lookup_grid_nth [eA g] []), (3, .int .i64 how), (10, .ptr 1 0), (11, .int .i64 (if how = 0 then 0 else i - 1)), (12, .int .i64 i)], fun _ => [.box true (cA x), .box true [.int .i64 1, .int .i64 X, .str s]], fun i => 1 ≤ i ∧ i ≤ n + 1 ∧ scanS how X (g.l.drop (i - 1).toNat) i (if how = 0 then 0 else i - 1) = scanS how X g.l 1 0, fun i => (n + 1 - i).toNat, rfl, ?_, fun i hi => ?_⟩
 ·conv => whnf
  refine ⟨1, ?_, rfl, by omega, by omega, ?_⟩
  ·split <;> rfl
  ·split <;> rfl
 ·obtain ⟨hi1, hi2, hi3⟩ := hi
  rcases Int.lt_or_le n i with hlt | hle
  ·refine csp_f (decide_eq_false (by omega)) ?_
   repeat' ((conv => whnf); (first | refine csp (fun h => ?_) (fun h => ?_) | (refine sda ?_ ?_; (focus (first | rfl | (simp; done)))) | refine sda ?_ ?_ | refine conk rfl ?_ | refine ldk rfl ?_ | refine mapk (fun x hx => ?_) | exact ⟨rfl, rfl⟩ | refine nilk (fun h => ?_) ?_ | intro hl))
   all_goals conv => whnf
   all_goals try simp only [tz] at *
   all_goals rw [List.drop_eq_nil_of_le (by omega), scanS] at hi3
   ·rw [if_pos h] at hi3
    rw [← hi3]
   ·rw [if_neg h] at hi3
    rw [← hi3]
  ·refine csp_t (decide_eq_true (by omega)) ?_
   have hil : (i - 1).toNat < g.l.length := by omega
   have hv : g.l[(i - 1).toNat]? = some g.l[(i - 1).toNat] := List.getElem?_eq_getElem hil
   have hvk := hk _ (List.getElem_mem hil)
   have hcons : g.l.drop (i - 1).toNat = g.l[(i - 1).toNat] :: g.l.drop ((i - 1).toNat + 1) := List.drop_eq_getElem_cons hil
   generalize g.l[(i - 1).toNat] = v at hv hvk hcons
   conv => whnf
   refine cllo (grid_nth g i v hi1 hv) (fun _ => ?_)
   refine csp_f (by rw [hvk]; rfl) ?_
   obtain ⟨c, hc, hcr⟩ : ∃ c, c = cmpI v.n X ∧ Ret Try.prog F_value_Cmp [eV v, eV ⟨1, X, s⟩] (.int .i64 c) := ⟨_, rfl, cmp_num v ⟨1, X, s⟩ hvk rfl⟩
   have hc3 : c = -1 ∨ c = 0 ∨ c = 1 := by
    rw [hc]
    unfold cmpI
    split
    ·exact .inl rfl
    ·split
     ·exact .inr (.inl rfl)
     ·exact .inr (.inr rfl)
   have hwr : IntKind.i64.wrap (c * how) = c * how := w64 (by rcases hc3 with h | h | h <;> rw [h] <;> omega)
   have hz : how = 0 → c * how = 0 := fun h => by rw [h, Int.mul_zero]
   rw [hcons, scanS, ← hc, show (i - 1).toNat + 1 = (i + 1 - 1).toNat by omega] at hi3
   conv => whnf
   refine cllo (hcr) (fun _ => ?_)
   clear hc hcr hx h1 hk
   repeat' ((conv => whnf); (first | refine csp (fun h => ?_) (fun h => ?_) | (refine sda ?_ ?_; (focus (first | rfl | (simp; done)))) | refine sda ?_ ?_ | refine conk rfl ?_ | refine ldk rfl ?_ | refine mapk (fun x hx => ?_) | exact ⟨rfl, rfl⟩ | refine nilk (fun h => ?_) ?_ | intro hl))
   all_goals conv => whnf
   all_goals try simp only [tz] at *
   all_goals try rw [hwr] at *
   ·rw [if_pos ⟨by assumption, h⟩] at hi3
    rw [← hi3]
   ·exfalso
    omega
   ·exfalso
    omega
   ·exact absurd (by assumption) h
   ·rw [if_neg (by omega), if_neg (by omega), if_pos h] at hi3
    refine ⟨i + 1, ?_, by trivial, ⟨by omega, by omega, ?_⟩, by omega⟩
    ·rw [if_pos h, if_pos h, w64 (by omega)]
    ·rw [← hi3, if_pos h, if_pos h]
   ·rw [if_neg (by omega), if_pos (by omega), if_pos h] at hi3
    rw [← hi3]
   ·rw [if_neg (by omega), if_pos (by omega), if_neg h] at hi3
    rw [← hi3]
   ·rw [if_neg (by omega), if_neg (by omega), if_neg h] at hi3
    refine ⟨i + 1, ?_, by trivial, ⟨by omega, by omega, ?_⟩, by omega⟩
    ·rw [if_neg h, w64 (by omega), show i + 1 - 1 = i by omega]
    ·rw [← hi3, if_neg h, show i + 1 - 1 = i by omega]
   ·exact absurd h (by assumption)
end Go.Proofs.Ytkkfclpodgagdaa
set_option maxRecDepth 100000
set_option linter.all false
namespace Go.Proofs.Ytkkfclpodgagdaa
open Ab R
theorem goods1 (a : Ar) (h : goodA a = true) : Ret Try.prog F_lookup_goods [.row false [cA a]] (.tup [.row false [cA a], .bool true]) := by
 have := lookup_goods [a] (by simp)
 simpa [goodsS, h] using this
theorem place2 (x g : Ar) (X : Int) (s : ByteArray) (hx : oneS x = ⟨1, X, s⟩) (hg : goodA g = true) (hl : g.rows = 1 ∨ g.cols = 1) (hk : ∀ k ∈ g.l, k.k = 1) :
  Ret Try.prog F_lookup_place [.row false [cA x, cA g]] (eV (let m := scanS 1 X g.l 1 0; if 0 < m.2 then badS m.2 else ofS (IntKind.i64.wrap (m.1 * 10000)) true)) := by
 obtain ⟨⟨g1, g2, g3, g4, g5⟩, _⟩ := goodA_out hg
 have hm := mulb g1 g3 g2 g4
 have hgl := grid_line g
 rw [decide_eq_true hl] at hgl
 have hmt := match_nth x g (g.l.map cV).length 1 X s hx (by rw [List.length_map]) hk (by omega) (by rw [List.length_map]; omega)
 refine r_lookup_place rfl fun hw => ?_
 clear hw
 repeat' ((conv => whnf); (first | refine csp (fun h => ?_) (fun h => ?_) | refine cllo (goods1 g hg) (fun _ => ?_) | refine cllo (hgl) (fun _ => ?_) | refine cllo (hmt) (fun _ => ?_) | refine cllo (value_Bad _) (fun _ => ?_) | refine cllo (lookup_whole _) (fun _ => ?_) | (refine sda ?_ ?_; (focus (first | rfl | (simp; done)))) | refine sda ?_ ?_ | refine conk rfl ?_ | refine ldk rfl ?_ | refine mapk (fun x hx => ?_) | exact ⟨rfl, rfl⟩ | refine nilk (fun h => ?_) ?_ | intro hl))
 all_goals conv => whnf
 all_goals try simp only [tz] at *
 ·show eV _ = eV _
  rw [if_pos h]
 ·show eV _ = eV _
  rw [if_neg (by omega)]
theorem place3 (x g w : Ar) (X : Int) (s : ByteArray) (hx : oneS x = ⟨1, X, s⟩) (hg : goodA g = true) (hl : g.rows = 1 ∨ g.cols = 1) (hk : ∀ k ∈ g.l, k.k = 1) (hw3 : ¬ (oneS w).k = 2) (hi : intsS (oneS w) = (0, 0)) :
  Ret Try.prog F_lookup_place [.row false [cA x, cA g, cA w]] (eV (let m := scanS 0 X g.l 1 0; if 0 < m.2 then badS m.2 else ofS (IntKind.i64.wrap (m.1 * 10000)) true)) := by
 obtain ⟨⟨g1, g2, g3, g4, g5⟩, _⟩ := goodA_out hg
 have hm := mulb g1 g3 g2 g4
 have hgl := grid_line g
 rw [decide_eq_true hl] at hgl
 have hmt := match_nth x g (g.l.map cV).length 0 X s hx (by rw [List.length_map]) hk (by omega) (by rw [List.length_map]; omega)
 have hit := lookup_ints w hw3
 rw [hi] at hit
 refine r_lookup_place rfl fun hw => ?_
 clear hw
 repeat' ((conv => whnf); (first | refine csp (fun h => ?_) (fun h => ?_) | refine cllo (goods1 g hg) (fun _ => ?_) | refine cllo (hgl) (fun _ => ?_) | refine cllo (hmt) (fun _ => ?_) | refine cllo (hit) (fun _ => ?_) | refine cllo (value_Bad _) (fun _ => ?_) | refine cllo (lookup_whole _) (fun _ => ?_) | (refine sda ?_ ?_; (focus (first | rfl | (simp; done)))) | refine sda ?_ ?_ | refine conk rfl ?_ | refine ldk rfl ?_ | refine mapk (fun x hx => ?_) | exact ⟨rfl, rfl⟩ | refine nilk (fun h => ?_) ?_ | intro hl))
 all_goals conv => whnf
 all_goals try simp only [tz] at *
 ·show eV _ = eV _
  rw [if_pos h]
 ·show eV _ = eV _
  rw [if_neg (by omega)]
theorem index2 (g w : Ar) (hg : goodA g = true) (hr : g.rows = 1) (hw2 : ¬ (oneS w).k = 2) (k : Int) (hi : intsS (oneS w) = (k, 0)) :
  Ret Try.prog F_lookup_index [.row false [cA g, cA w]] (eV (atS g 1 k)) := by
 have hit := lookup_ints w hw2
 rw [hi] at hit
 refine r_lookup_index rfl fun hw => ?_
 clear hw
 repeat' ((conv => whnf); (first | refine csp (fun h => ?_) (fun h => ?_) | refine cllo (goods1 g hg) (fun _ => ?_) | refine cllo (hit) (fun _ => ?_) | refine cllo (value_Bad _) (fun _ => ?_) | refine cllo (grid_at g 1 k hg) (fun _ => ?_) | (refine sda ?_ ?_; (focus (first | rfl | (simp; done)))) | refine sda ?_ ?_ | refine conk rfl ?_ | refine ldk rfl ?_ | refine mapk (fun x hx => ?_) | exact ⟨rfl, rfl⟩ | refine nilk (fun h => ?_) ?_ | intro hl))
 all_goals conv => whnf
 all_goals try simp only [tz] at *
 exact absurd hr h
theorem find_MATCH : Ret Try.prog F_lookup_find [.str ⟨#[77, 65, 84, 67, 72]⟩] (.tup [.fn F_lookup_place [] [], .int .i64 2, .int .i64 3]) := by
 refine r_lookup_find rfl fun hw => ?_
 clear hw
 repeat' ((conv => whnf); (first | refine csp (fun h => ?_) (fun h => ?_) | (refine sda ?_ ?_; (focus (first | rfl | (simp; done)))) | refine sda ?_ ?_ | refine conk rfl ?_ | refine ldk rfl ?_ | refine mapk (fun x hx => ?_) | exact ⟨rfl, rfl⟩ | refine nilk (fun h => ?_) ?_ | intro hl))
 all_goals conv => whnf
theorem find_INDEX : Ret Try.prog F_lookup_find [.str ⟨#[73, 78, 68, 69, 88]⟩] (.tup [.fn F_lookup_index [] [], .int .i64 2, .int .i64 3]) := by
 refine r_lookup_find rfl fun hw => ?_
 clear hw
 repeat' ((conv => whnf); (first | refine csp (fun h => ?_) (fun h => ?_) | (refine sda ?_ ?_; (focus (first | rfl | (simp; done)))) | refine sda ?_ ?_ | refine conk rfl ?_ | refine ldk rfl ?_ | refine mapk (fun x hx => ?_) | exact ⟨rfl, rfl⟩ | refine nilk (fun h => ?_) ?_ | intro hl))
 all_goals conv => whnf
theorem lookup_sized_2 : Ret Try.prog F_lookup_sized [.fn F_lookup_find_2 [] []] (.fn F_lookup_sized_1 [] [.elem [.fn F_lookup_find_2 [] []]]) := by
 refine r_lookup_sized rfl fun hw => ?_
 clear hw
 repeat' ((conv => whnf); (first | refine csp (fun h => ?_) (fun h => ?_) | (refine sda ?_ ?_; (focus (first | rfl | (simp; done)))) | refine sda ?_ ?_ | refine conk rfl ?_ | refine ldk rfl ?_ | refine mapk (fun x hx => ?_) | exact ⟨rfl, rfl⟩ | refine nilk (fun h => ?_) ?_ | intro hl))
 all_goals conv => whnf
theorem find_COLUMNS : Ret Try.prog F_lookup_find [.str ⟨#[67, 79, 76, 85, 77, 78, 83]⟩] (.tup [.fn F_lookup_sized_1 [] [.elem [.fn F_lookup_find_2 [] []]], .int .i64 1, .int .i64 1]) := by
 refine r_lookup_find rfl fun hw => ?_
 clear hw
 repeat' ((conv => whnf); (first | refine csp (fun h => ?_) (fun h => ?_) | refine cllo (lookup_sized_2) (fun _ => ?_) | (refine sda ?_ ?_; (focus (first | rfl | (simp; done)))) | refine sda ?_ ?_ | refine conk rfl ?_ | refine ldk rfl ?_ | refine mapk (fun x hx => ?_) | exact ⟨rfl, rfl⟩ | refine nilk (fun h => ?_) ?_ | intro hl))
 all_goals conv => whnf
theorem find_2 (g : Ar) : Ret Try.prog F_lookup_find_2 [eA g] (.int .i64 g.cols) := by
 refine r_lookup_find_2 rfl fun hw => ?_
 clear hw
 repeat' ((conv => whnf); (first | refine csp (fun h => ?_) (fun h => ?_) | (refine sda ?_ ?_; (focus (first | rfl | (simp; done)))) | refine sda ?_ ?_ | refine conk rfl ?_ | refine ldk rfl ?_ | refine mapk (fun x hx => ?_) | exact ⟨rfl, rfl⟩ | refine nilk (fun h => ?_) ?_ | intro hl))
 all_goals conv => whnf
theorem sized_2 (g : Ar) (hg : goodA g = true) : Ret Try.prog F_lookup_sized_1 [.row false [cA g], .elem [.fn F_lookup_find_2 [] []]] (eV (ofS (IntKind.i64.wrap (g.cols * 10000)) true)) := by
 refine r_lookup_sized_1 rfl fun hw => ?_
 clear hw
 repeat' ((conv => whnf); (first | refine csp (fun h => ?_) (fun h => ?_) | refine cllo (goods1 g hg) (fun _ => ?_) | refine cllo (value_Bad _) (fun _ => ?_) | refine cllo (find_2 g) (fun _ => ?_) | refine cllo (lookup_whole _) (fun _ => ?_) | (refine sda ?_ ?_; (focus (first | rfl | (simp; done)))) | refine sda ?_ ?_ | refine conk rfl ?_ | refine ldk rfl ?_ | refine mapk (fun x hx => ?_) | exact ⟨rfl, rfl⟩ | refine nilk (fun h => ?_) ?_ | intro hl))
 all_goals conv => whnf
end Go.Proofs.Ytkkfclpodgagdaa
set_option maxRecDepth 100000
set_option linter.all false
namespace Go.Proofs.Ytkkfclpodgagdaa
open Ab R
theorem ask0 (nm : ByteArray) (g : FuncId) (lo hi : Int) (args : List (List V)) (r : GV) (hf : Ret Try.prog F_lookup_find [.str nm] (.tup [.fn g [] [], .int .i64 lo, .int .i64 hi])) (hr : Ret Try.prog g [.row false args] (eV r)) (h1 : lo ≤ args.length) (h2 : args.length ≤ hi) :
  Ret Try.prog F_octavolaw21_ask [.str nm, .row false args] (eV r) := by
 have hc : Ret Try.prog F_lookup_Call [.str nm, .row false args] (.tup [eV r, .bool true]) := by
  refine r_lookup_Call rfl fun hw => ?_
  clear hw
  repeat' ((conv => whnf); (first | refine csp (fun h => ?_) (fun h => ?_) | refine cllo (hf) (fun _ => ?_) | refine cllo (hr) (fun _ => ?_) | refine cllo (value_Bad _) (fun _ => ?_) | (refine sda ?_ ?_; (focus (first | rfl | (simp; done)))) | refine sda ?_ ?_ | refine conk rfl ?_ | refine ldk rfl ?_ | refine mapk (fun x hx => ?_) | exact ⟨rfl, rfl⟩ | refine nilk (fun h => ?_) ?_ | intro hl))
  all_goals conv => whnf
  all_goals try simp only [tz] at *
  ·exfalso
   omega
  ·exfalso
   omega
 refine r_octavolaw21_ask rfl fun hw => ?_
 clear hw
 repeat' ((conv => whnf); (first | refine csp (fun h => ?_) (fun h => ?_) | refine cllo (hc) (fun _ => ?_) | (refine sda ?_ ?_; (focus (first | rfl | (simp; done)))) | refine sda ?_ ?_ | refine conk rfl ?_ | refine ldk rfl ?_ | refine mapk (fun x hx => ?_) | exact ⟨rfl, rfl⟩ | refine nilk (fun h => ?_) ?_ | intro hl))
 all_goals conv => whnf
theorem ask2 (nm : ByteArray) (g : FuncId) (lo hi : Int) (args : List (List V)) (r : GV) (hf : Ret Try.prog F_lookup_find [.str nm] (.tup [.fn g [] [.elem [.fn F_lookup_find_2 [] []]], .int .i64 lo, .int .i64 hi])) (hr : Ret Try.prog g [.row false args, .elem [.fn F_lookup_find_2 [] []]] (eV r)) (h1 : lo ≤ args.length) (h2 : args.length ≤ hi) :
  Ret Try.prog F_octavolaw21_ask [.str nm, .row false args] (eV r) := by
 have hc : Ret Try.prog F_lookup_Call [.str nm, .row false args] (.tup [eV r, .bool true]) := by
  refine r_lookup_Call rfl fun hw => ?_
  clear hw
  repeat' ((conv => whnf); (first | refine csp (fun h => ?_) (fun h => ?_) | refine cllo (hf) (fun _ => ?_) | refine cllo (hr) (fun _ => ?_) | refine cllo (value_Bad _) (fun _ => ?_) | (refine sda ?_ ?_; (focus (first | rfl | (simp; done)))) | refine sda ?_ ?_ | refine conk rfl ?_ | refine ldk rfl ?_ | refine mapk (fun x hx => ?_) | exact ⟨rfl, rfl⟩ | refine nilk (fun h => ?_) ?_ | intro hl))
  all_goals conv => whnf
  all_goals try simp only [tz] at *
  ·exfalso
   omega
  ·exfalso
   omega
 refine r_octavolaw21_ask rfl fun hw => ?_
 clear hw
 repeat' ((conv => whnf); (first | refine csp (fun h => ?_) (fun h => ?_) | refine cllo (hc) (fun _ => ?_) | (refine sda ?_ ?_; (focus (first | rfl | (simp; done)))) | refine sda ?_ ?_ | refine conk rfl ?_ | refine ldk rfl ?_ | refine mapk (fun x hx => ?_) | exact ⟨rfl, rfl⟩ | refine nilk (fun h => ?_) ?_ | intro hl))
 all_goals conv => whnf
def nA (n : Int) : Ar := ⟨1, 1, [⟨1, n, e0⟩], false⟩
theorem one_nA {n : Int} (h : goodN n = true) : oneS (nA n) = ⟨1, n, e0⟩ := by
 have : goodA (nA n) = true := goodA_yes ⟨by simp [nA], by simp [nA], by simp [nA], by simp [nA], rfl⟩ (by simp [nA, goodV, h])
 rw [oneS, if_pos ⟨rfl, this⟩]
 rfl
def kA : Ar := ⟨1, 3, [⟨1, 10000, e0⟩, ⟨1, 20000, e0⟩, ⟨1, 40000, e0⟩], true⟩
theorem good_kA : goodA kA = true := goodA_yes ⟨by decide, by decide, by decide, by decide, rfl⟩ (by simp [kA, goodV, goodN])
theorem kA_num : ∀ k ∈ kA.l, k.k = 1 := by simp [kA]
theorem live1 : Ret Try.prog F_octavolaw21_ask [.str ⟨#[77, 65, 84, 67, 72]⟩, .row false [cA (nA 30000), cA kA]] (eV ⟨1, 20000, e0⟩) :=
 ask0 _ _ 2 3 _ _ find_MATCH (place2 (nA 30000) kA 30000 e0 (one_nA (by decide)) good_kA (.inl rfl) kA_num) (by decide) (by decide)
theorem live2 : Ret Try.prog F_octavolaw21_ask [.str ⟨#[77, 65, 84, 67, 72]⟩, .row false [cA (nA 30000), cA kA, cA (nA 0)]] (eV ⟨4, 6, e0⟩) :=
 ask0 _ _ 2 3 _ _ find_MATCH (place3 (nA 30000) kA (nA 0) 30000 e0 (one_nA (by decide)) good_kA (.inl rfl) kA_num (by rw [one_nA (by decide)]; decide) (by rw [one_nA (by decide)]; decide)) (by decide) (by decide)
theorem live3 : Ret Try.prog F_octavolaw21_ask [.str ⟨#[73, 78, 68, 69, 88]⟩, .row false [cA kA, cA (nA 30000)]] (eV ⟨1, 40000, e0⟩) :=
 ask0 _ _ 2 3 _ _ find_INDEX (index2 kA (nA 30000) good_kA rfl (by rw [one_nA (by decide)]; decide) 3 (by rw [one_nA (by decide)]; decide)) (by decide) (by decide)
theorem live4 : Ret Try.prog F_octavolaw21_ask [.str ⟨#[67, 79, 76, 85, 77, 78, 83]⟩, .row false [cA kA]] (eV ⟨1, 30000, e0⟩) :=
 ask2 _ _ 1 1 _ _ find_COLUMNS (sized_2 kA good_kA) (by decide) (by decide)
theorem law_num (n : Int) : Ret Try.prog F_octavolaw21_number [.int .i64 n] (eA (nA n)) := law_number n
theorem lives : Ret Try.prog F_octavolaw21_lives [] (.bool true) := by
 refine r_octavolaw21_lives rfl fun hw => ?_
 clear hw
 repeat' ((conv => whnf); (first | refine csp (fun h => ?_) (fun h => ?_) | refine cllo (live1) (fun _ => ?_) | refine cllo (live2) (fun _ => ?_) | refine cllo (live3) (fun _ => ?_) | refine cllo (live4) (fun _ => ?_) | refine cllo (law_num _) (fun _ => ?_) | (refine sda ?_ ?_; (focus (first | rfl | (simp; done)))) | refine sda ?_ ?_ | refine conk rfl ?_ | refine ldk rfl ?_ | refine mapk (fun x hx => ?_) | exact ⟨rfl, rfl⟩ | refine nilk (fun h => ?_) ?_ | intro hl))
 all_goals conv => whnf
 all_goals rfl
end Go.Proofs.Ytkkfclpodgagdaa
set_option maxRecDepth 100000
set_option linter.all false
namespace Go.Proofs.Ytkkfclpodgagdaa
open Ab R
theorem gl_b {a : Ar} (hg : goodA a = true) : ((a.l.map cV).length : Int) ≤ 16777216 := by
 obtain ⟨⟨g1, g2, g3, g4, g5⟩, _⟩ := goodA_out hg
 have hm := mulb g1 g3 g2 g4
 rw [List.length_map]
 omega
end Go.Proofs.Ytkkfclpodgagdaa
set_option maxRecDepth 100000
set_option linter.all false
namespace Go.Proofs.Ytkkfclpodgagdaa
open Ab R
open Classical in
noncomputable def seenS (l : List (GV × Int)) (v : GV) : List (GV × Int) := match l with
 | [] => [(v, IntKind.i64.wrap (0 + 1))]
 | x :: l => if x.1 = v then (x.1, IntKind.i64.wrap (x.2 + 1)) :: l else x :: seenS l v
def encM : List (GV × Int) → Nat → List (Nat × V × V)
 | [], _ => []
 | x :: l, i => (i, eV x.1, .int .i64 x.2) :: encM l (i + 1)
theorem encM_len : ∀ (l : List (GV × Int)) (i : Nat), (encM l i).length = l.length
 | [], _ => rfl
 | x :: l, i => by simp [encM, encM_len l]
theorem encM_app : ∀ (l m : List (GV × Int)) (i : Nat), encM (l ++ m) i = encM l i ++ encM m (i + l.length)
 | [], m, i => rfl
 | x :: l, m, i => by simp only [List.cons_append, encM, encM_app l m, List.length_cons]; rw [show i + 1 + l.length = i + (l.length + 1) by omega]
theorem eqV (v w : GV) : eqKey Try.prog 26 (eV v) (eV w) = some (decide (v.k = w.k) && (decide (v.n = w.n) && (decide (v.s = w.s) && true))) := by kernel_rfl
theorem updB_ne {n : Nat} {x : V} {y : Nat × V × V} {es : List (Nat × V × V)} (hne : y.1 ≠ n) : updB n x (y :: es) = y :: updB n x es := by
 have : Nat.beq y.1 n = false := by
  cases q : Nat.beq y.1 n with
  | false => rfl
  | true => exact absurd (Nat.eq_of_beq_eq_true q) hne
 simp [updB, this]
theorem updB_last {n : Nat} {x k z : V} : ∀ (es : List (Nat × V × V)), (∀ y ∈ es, y.1 ≠ n) → updB n x (es ++ [(n, k, z)]) = es ++ [(n, k, x)]
 | [], _ => by simp [updB]
 | y :: es, h => by
  rw [List.cons_append, updB_ne (h y List.mem_cons_self), updB_last es fun z hz => h z (List.mem_cons_of_mem _ hz)]
  rfl
theorem findM (v : GV) : ∀ (l : List (GV × Int)) (i : Nat),
  (∃ (m : Nat) (c : Int), l[m]? = some (v, c) ∧ encM (seenS l v) i = updB (i + m) (.int .i64 (IntKind.i64.wrap (c + 1))) (encM l i) ∧ ∀ (j : Nat) (K : Option (Nat × Nat × V × V) → Prop), K (some (j + m, (i + m, eV v, .int .i64 c))) → findK Try.prog 26 (eV v) (encM l i) j K) ∨
  (seenS l v = l ++ [(v, IntKind.i64.wrap (0 + 1))] ∧ ∀ (j : Nat) (K : Option (Nat × Nat × V × V) → Prop), K none → findK Try.prog 26 (eV v) (encM l i) j K)
 | [], i => .inr ⟨rfl, fun j K h => h⟩
 | x :: l, i => by
  obtain ⟨w, c⟩ := x
  by_cases q : w = v
  ·subst q
   refine .inl ⟨0, c, rfl, by simp [seenS, encM, updB], fun j K h => ?_⟩
   show (match eqKey Try.prog 26 (eV w) (eV w) with | some b => csplit b _ _ | none => False)
   rw [eqV]
   exact csp_t (by simp) h
  ·have hne : (decide (v.k = w.k) && (decide (v.n = w.n) && (decide (v.s = w.s) && true))) = false := by
    simp only [Bool.and_true, Bool.and_eq_false_iff, decide_eq_false_iff_not]
    rcases v with ⟨a, b, s⟩
    rcases w with ⟨a', b', s'⟩
    by_cases e1 : a = a'
    ·by_cases e2 : b = b'
     ·refine .inr (.inr fun e3 => q ?_)
      simp only at e3
      rw [e1, e2, e3]
     ·exact .inr (.inl e2)
    ·exact .inl e1
   have go : ∀ (j : Nat) (K : Option (Nat × Nat × V × V) → Prop), findK Try.prog 26 (eV v) (encM l (i + 1)) (j + 1) K → findK Try.prog 26 (eV v) (encM ((w, c) :: l) i) j K := by
    intro j K h
    show (match eqKey Try.prog 26 (eV v) (eV w) with | some b => csplit b _ _ | none => False)
    rw [eqV]
    exact csp_f hne h
   rcases findM v l (i + 1) with ⟨m, c', hm, he, hk⟩ | ⟨he, hk⟩
   ·refine .inl ⟨m + 1, c', by simpa using hm, ?_, fun j K h => go j K (hk (j + 1) K ?_)⟩
    ·rw [show i + 1 + m = i + (m + 1) by omega] at he
     rw [seenS, if_neg q]
     simp only [encM]
     rw [updB_ne (by show i ≠ i + (m + 1); omega), he]
    ·rw [show j + 1 + m = j + (m + 1) by omega, show i + 1 + m = i + (m + 1) by omega]
     exact h
   ·refine .inr ⟨?_, fun j K h => go j K (hk (j + 1) K h)⟩
    rw [seenS, if_neg q, he]
    rfl
theorem encM_ren (g : List Nat) : ∀ (l : List (GV × Int)) (i : Nat), ((encM l i).map fun x => (x.1, Ab.ren 8 g x.2.1, Ab.ren 8 g x.2.2)) = encM l i
 | [], _ => rfl
 | x :: l, i => by
  simp only [encM, List.map_cons, encM_ren g l (i + 1)]
  rfl
def upG (v : GV) : GV := ⟨v.k, v.n, Vl.up v.s⟩
noncomputable def unlS (l : List GV) : List (GV × Int) := l.foldl (fun acc v => if v.k = 0 ∨ v.k = 4 then acc else seenS acc (upG v)) []
theorem seenS_len (l : List (GV × Int)) (v : GV) : (seenS l v).length ≤ l.length + 1 := by
 induction l with
 | nil => simp [seenS]
 | cons x l ih => unfold seenS; split <;> simp <;> omega
theorem unlS_len (l : List GV) : (unlS l).length ≤ l.length := by
 have : ∀ (l : List GV) (acc : List (GV × Int)), (l.foldl (fun acc v => if v.k = 0 ∨ v.k = 4 then acc else seenS acc (upG v)) acc).length ≤ acc.length + l.length := by
  intro l
  induction l with
  | nil => intro acc; simp
  | cons x l ih =>
   intro acc
   have h := ih (if x.k = 0 ∨ x.k = 4 then acc else seenS acc (upG x))
   have h2 : (if x.k = 0 ∨ x.k = 4 then acc else seenS acc (upG x)).length ≤ acc.length + 1 := by
    split
    ·omega
    ·exact seenS_len acc (upG x)
   rw [List.foldl_cons, List.length_cons]
   omega
 have := this l []
 rw [List.length_nil, Nat.zero_add] at this
 exact this
theorem encM_born : ∀ (l : List (GV × Int)) (i : Nat) y, y ∈ encM l i → y.1 < i + l.length
 | [], _, y, h => by cases h
 | x :: l, i, y, h => by
  rcases List.mem_cons.1 h with rfl | h
  ·show i < _; simp
  ·have := encM_born l (i + 1) y h; simp; omega
theorem encM_mem (l : List (GV × Int)) (i m : Nat) {x : GV × Int} (h : l[m]? = some x) : (i + m, eV x.1, V.int .i64 x.2) ∈ encM l i := by
 induction l generalizing i m with
 | nil => simp at h
 | cons y l ih =>
  cases m with
  | zero => simp at h; subst h; exact List.mem_cons_self
  | succ m =>
   have := ih (i + 1) m (by simpa using h)
   rw [show i + 1 + m = i + (m + 1) by omega] at this
   exact List.mem_cons_of_mem _ this
theorem up_size (s : ByteArray) : (Vl.up s).size = s.size := by
 have : ∀ l : List Int, (strOfNums l).size = l.length := fun l => by simp [strOfNums, ByteArray.size]
 unfold Vl.up X.mapS
 rw [this, List.length_map, Go.Proofs.YtkkfclpodgagdaaW.PrintWords.bytesOf_length]
theorem unlike_r (a : Ar) (hg : goodA a = true) : Ret Try.prog F_lookup_unlike [eA a] (.int .i64 (unlS a.l).length) := by
 have hb := gl_b hg
 have hgl := (goodA_out hg).2
 rw [List.length_map] at hb
 have hup : ∀ s : ByteArray, s.size ≤ 255 → Ret Try.prog F_value_Upper [.str s] (.str (Vl.up s)) := fun s hs => c_value_Upper s _ (Vl.Upper_is (by omega)) (by rw [up_size]; omega)
 refine r_lookup_unlike rfl fun hw => ?_
 clear hw
 repeat' ((conv => whnf); (first | refine csp (fun h => ?_) (fun h => ?_) | (refine sda ?_ ?_; (focus (first | rfl | (simp; done)))) | refine sda ?_ ?_ | refine conk rfl ?_ | refine ldk rfl ?_ | refine mapk (fun x hx => ?_) | exact ⟨rfl, rfl⟩ | refine nilk (fun h => ?_) ?_ | intro hl))
 conv => whnf
 refine .inl ⟨Nat, [3, 9, 10, 11], [0, 1], fun i => [(3, .map 1), (9, .row false (a.l.map cV)), (10, .int .i64 (a.l.map cV).length), (11, .int .i64 i)], fun i => [.box true (cA a), .map (unlS (a.l.take i)).length (encM (unlS (a.l.take i)) 0)], fun i => i ≤ a.l.length, fun i => a.l.length - i, rfl, ?_, fun i hi => ?_⟩
 ·exact ⟨0, rfl, rfl, Nat.zero_le _⟩
 have hi : i ≤ a.l.length := hi
 have hub := unlS_len (a.l.take i)
 have hu0 : (a.l.take i).length ≤ i := by rw [List.length_take]; omega
 rcases Nat.lt_or_ge i a.l.length with hlt | hge
 ·have hx : a.l[i]? = some a.l[i] := List.getElem?_eq_getElem hlt
  have hxs := goodV_size (List.all_eq_true.1 hgl _ (List.getElem_mem hlt))
  generalize a.l[i] = x at hx hxs
  have hux := hup x.s hxs
  have hstep : unlS (a.l.take (i + 1)) = if x.k = 0 ∨ x.k = 4 then unlS (a.l.take i) else seenS (unlS (a.l.take i)) (upG x) := by
   unfold unlS
   rw [fold_take hx]
  have hw1 := w64 (n := (i : Int) + 1) (by omega)
  have he : (a.l.map cV)[((i : Nat) : Int).toNat]? = some (cV x) := by
   rw [Int.toNat_natCast, List.getElem?_map, hx]
   rfl
  have hlt' : decide ((i : Int) < ((a.l.map cV).length : Int)) = true := decide_eq_true (by rw [List.length_map]; omega)
  clear hup hgl
  by_cases hk : x.k = 0 ∨ x.k = 4
  ·rw [if_pos hk] at hstep
   repeat' ((conv => whnf); (first | refine csp_t ((hlt')) ?_ | refine pickk0 ?_ | refine csp (fun h => ?_) (fun h => ?_) | refine conk he ?_ | refine cllo (hux) (fun _ => ?_) | (refine sda ?_ ?_; (focus (first | rfl | exact of_decide_eq_true rfl | (simp; done)))) | refine sda ?_ ?_ | refine conk rfl ?_ | refine ldk rfl ?_ | refine mapk (fun x hx => ?_) | exact ⟨rfl, rfl⟩ | refine nilk (fun h => absurd h (of_decide_eq_false rfl)) ?_ | refine nilk (fun h => absurd h (List.cons_ne_nil _ _)) ?_ | refine nilk (fun h => ?_) ?_ | exact rfl | refine leftk1 rfl ?_ | refine bytk8 rfl ?_ | refine bytk rfl ?_ | exact leftk0 rfl | refine eqk rfl ?_ | refine fLm rfl ?_ | refine fLk (by assumption) ?_ | refine fVk ?_ | refine fLVk ?_ | refine fWk ?_ | intro hl))
   all_goals conv => whnf
   all_goals try simp only [tz] at *
   ·omega
   ·refine ⟨i + 1, by rw [hw1]; rfl, ?_, by omega, by omega⟩
    rw [hstep, encM_ren]
   ·refine ⟨i + 1, by rw [hw1]; rfl, ?_, by omega, by omega⟩
    rw [hstep, encM_ren]
   ·exact absurd hk (by omega)
  ·rw [if_neg hk] at hstep
   rcases findM (upG x) (unlS (a.l.take i)) 0 with ⟨m, c, hm, he2, hf⟩ | ⟨he2, hf⟩
   ·have hml := (List.getElem?_eq_some_iff.1 hm).1
    have hmem := encM_mem (unlS (a.l.take i)) 0 m hm
    have hln : (seenS (unlS (a.l.take i)) (upG x)).length = (unlS (a.l.take i)).length := by
     have := congrArg List.length he2
     rw [updB_length, encM_len, encM_len] at this
     exact this
    repeat' ((conv => whnf); (first | refine csp_t ((hlt')) ?_ | refine pickk0 ?_ | refine csp (fun h => ?_) (fun h => ?_) | refine conk he ?_ | refine cllo (hux) (fun _ => ?_) | refine hf _ _ ?_ | (refine sda ?_ ?_; (focus (first | rfl | exact of_decide_eq_true rfl | (simp; done)))) | refine sda ?_ ?_ | refine conk rfl ?_ | refine ldk rfl ?_ | refine mapk (fun x hx => ?_) | exact ⟨rfl, rfl⟩ | refine nilk (fun h => absurd h (of_decide_eq_false rfl)) ?_ | refine nilk (fun h => absurd h (List.cons_ne_nil _ _)) ?_ | refine nilk (fun h => ?_) ?_ | exact rfl | refine leftk1 rfl ?_ | refine bytk8 rfl ?_ | refine bytk rfl ?_ | exact leftk0 rfl | refine eqk rfl ?_ | refine fLm rfl ?_ | refine fLk (by assumption) ?_ | refine fVk ?_ | refine fLVk ?_ | refine fWk ?_ | intro hl))
    all_goals conv => whnf
    all_goals try simp only [tz] at *
    ·omega
    ·exact absurd (.inl h) hk
    ·exact absurd (.inr h) hk
    ·show 0 + m ≤ 9223372036854775807
     omega
    ·exact ⟨_, hmem, rfl⟩
    ·refine ⟨i + 1, by rw [hw1]; rfl, ?_, by omega, by omega⟩
     rw [hstep, hln]
     have e : updB ((0 + m : Nat) : Int).toNat (.int .i64 (IntKind.i64.wrap (c + 1))) (encM (unlS (a.l.take i)) 0) = encM (seenS (unlS (a.l.take i)) (upG x)) 0 := he2.symm
     rw [e, encM_ren]
   ·repeat' ((conv => whnf); (first | refine csp_t ((hlt')) ?_ | refine pickk0 ?_ | refine csp (fun h => ?_) (fun h => ?_) | refine conk he ?_ | refine cllo (hux) (fun _ => ?_) | refine hf _ _ ?_ | (refine sda ?_ ?_; (focus (first | rfl | exact of_decide_eq_true rfl | (simp; done)))) | refine sda ?_ ?_ | refine conk rfl ?_ | refine ldk rfl ?_ | refine mapk (fun x hx => ?_) | exact ⟨rfl, rfl⟩ | refine nilk (fun h => absurd h (of_decide_eq_false rfl)) ?_ | refine nilk (fun h => absurd h (List.cons_ne_nil _ _)) ?_ | refine nilk (fun h => ?_) ?_ | exact rfl | refine leftk1 rfl ?_ | refine bytk8 rfl ?_ | refine bytk rfl ?_ | exact leftk0 rfl | refine eqk rfl ?_ | refine fLm rfl ?_ | refine fLk (by assumption) ?_ | refine fVk ?_ | refine fLVk ?_ | refine fWk ?_ | intro hl))
    all_goals conv => whnf
    all_goals try simp only [tz] at *
    ·omega
    ·exact absurd (.inl h) hk
    ·exact absurd (.inr h) hk
    ·rw [encM_len]
     show _ + 1 ≤ 9223372036854775807
     omega
    ·show _ ≤ 9223372036854775807
     omega
    ·refine ⟨i + 1, by rw [hw1]; rfl, ?_, by omega, by omega⟩
     have e : updB (((unlS (a.l.take i)).length : Nat) : Int).toNat (.int .i64 (IntKind.i64.wrap (0 + 1))) (encM (unlS (a.l.take i)) 0 ++ [((unlS (a.l.take i)).length, eV (upG x), .int .i64 0)]) = encM (unlS (a.l.take i) ++ [(upG x, IntKind.i64.wrap (0 + 1))]) 0 := by
      rw [Int.toNat_natCast, updB_last _ (fun y hy => by have := encM_born _ 0 y hy; omega), encM_app, Nat.zero_add]
      rfl
     rw [hstep, he2]
     show [_, O.map _ (List.map _ (updB (((unlS (a.l.take i)).length : Nat) : Int).toNat (.int .i64 (IntKind.i64.wrap (0 + 1))) (encM (unlS (a.l.take i)) 0 ++ [((unlS (a.l.take i)).length, eV (upG x), .int .i64 0)])))] = _
     rw [e, encM_ren, List.length_append]
     rfl
 ·have e : a.l.take i = a.l := List.take_of_length_le hge
  repeat' ((conv => whnf); (first | refine csp (fun h => ?_) (fun h => ?_) | (refine sda ?_ ?_; (focus (first | rfl | (simp; done)))) | refine sda ?_ ?_ | refine conk rfl ?_ | refine ldk rfl ?_ | refine mapk (fun x hx => ?_) | exact ⟨rfl, rfl⟩ | refine nilk (fun h => ?_) ?_ | intro hl))
  all_goals conv => whnf
  all_goals try simp only [tz] at *
  all_goals first | (exfalso; omega) | (rw [e, encM_len])
end Go.Proofs.Ytkkfclpodgagdaa
set_option maxRecDepth 100000
set_option linter.all false
namespace Go.Proofs.Ytkkfclpodgagdaa
open Ab R
theorem find_1r (g : Ar) : Ret Try.prog F_lookup_find_1 [eA g] (.int .i64 g.rows) := by
 refine r_lookup_find_1 rfl fun hw => ?_
 clear hw
 repeat' ((conv => whnf); (first | refine csp (fun h => ?_) (fun h => ?_) | (refine sda ?_ ?_; (focus (first | rfl | (simp; done)))) | refine sda ?_ ?_ | refine conk rfl ?_ | refine ldk rfl ?_ | refine mapk (fun x hx => ?_) | exact ⟨rfl, rfl⟩ | refine nilk (fun h => ?_) ?_ | intro hl))
 all_goals conv => whnf
theorem lookup_sized_g (F : FuncId) : Ret Try.prog F_lookup_sized [.fn F [] []] (.fn F_lookup_sized_1 [] [.elem [.fn F [] []]]) := by
 refine r_lookup_sized rfl fun hw => ?_
 clear hw
 repeat' ((conv => whnf); (first | refine csp (fun h => ?_) (fun h => ?_) | (refine sda ?_ ?_; (focus (first | rfl | (simp; done)))) | refine sda ?_ ?_ | refine conk rfl ?_ | refine ldk rfl ?_ | refine mapk (fun x hx => ?_) | exact ⟨rfl, rfl⟩ | refine nilk (fun h => ?_) ?_ | intro hl))
 all_goals conv => whnf
end Go.Proofs.Ytkkfclpodgagdaa
set_option maxRecDepth 100000
set_option linter.all false
namespace Go.Proofs.Ytkkfclpodgagdaa
open Ab R
theorem seenS_hit (l : List (GV × Int)) (v : GV) (h : ∃ c, (v, c) ∈ l) : (seenS l v).length = l.length ∧ (seenS l v).map (·.1) = l.map (·.1) := by
 induction l with
 | nil => obtain ⟨c, hc⟩ := h; cases hc
 | cons x l ih =>
  unfold seenS
  split
  ·exact ⟨by simp, by simp⟩
  ·rename_i q
   obtain ⟨c, hc⟩ := h
   have : ∃ c, (v, c) ∈ l := by
    rcases List.mem_cons.1 hc with e | e
    ·exact absurd (by rw [← e]) q
    ·exact ⟨c, e⟩
   obtain ⟨h1, h2⟩ := ih this
   exact ⟨by simp [h1], by simp [h2]⟩
theorem seenS_mem (l : List (GV × Int)) (v : GV) : ∃ c, (v, c) ∈ seenS l v := by
 induction l with
 | nil => exact ⟨_, List.mem_cons_self⟩
 | cons x l ih =>
  unfold seenS
  split
  ·rename_i q
   exact ⟨_, by rw [← q]; exact List.mem_cons_self⟩
  ·obtain ⟨c, hc⟩ := ih
   exact ⟨c, List.mem_cons_of_mem _ hc⟩
theorem seenS_keep (l : List (GV × Int)) (v w : GV) (h : ∃ c, (w, c) ∈ l) : ∃ c, (w, c) ∈ seenS l v := by
 induction l with
 | nil => obtain ⟨c, hc⟩ := h; cases hc
 | cons x l ih =>
  obtain ⟨c, hc⟩ := h
  unfold seenS
  split
  ·rcases List.mem_cons.1 hc with e | e
   ·exact ⟨_, by rw [← e]; exact List.mem_cons_self⟩
   ·exact ⟨c, List.mem_cons_of_mem _ e⟩
  ·rcases List.mem_cons.1 hc with e | e
   ·exact ⟨c, by rw [e]; exact List.mem_cons_self⟩
   ·obtain ⟨c, hc⟩ := ih ⟨c, e⟩
    exact ⟨c, List.mem_cons_of_mem _ hc⟩
noncomputable def unlT (acc : List (GV × Int)) (v : GV) : List (GV × Int) := if v.k = 0 ∨ v.k = 4 then acc else seenS acc (upG v)
theorem unl_keep (l : List GV) : ∀ (acc : List (GV × Int)) (w : GV), (∃ c, (w, c) ∈ acc) → ∃ c, (w, c) ∈ l.foldl unlT acc := by
 induction l with
 | nil => intro acc w h; exact h
 | cons x l ih =>
  intro acc w h
  refine ih _ w ?_
  unfold unlT
  split
  ·exact h
  ·exact seenS_keep acc _ w h
theorem unl_has (l : List GV) : ∀ (acc : List (GV × Int)) (v : GV), v ∈ l → ¬ (v.k = 0 ∨ v.k = 4) → ∃ c, (upG v, c) ∈ l.foldl unlT acc := by
 induction l with
 | nil => intro acc v h; cases h
 | cons x l ih =>
  intro acc v h hk
  rcases List.mem_cons.1 h with e | e
  ·subst e
   refine unl_keep l _ _ ?_
   rw [unlT, if_neg hk]
   exact seenS_mem acc _
  ·exact ih _ v e hk
theorem unl_same (l : List GV) : ∀ acc : List (GV × Int), (∀ v ∈ l, ¬ (v.k = 0 ∨ v.k = 4) → ∃ c, (upG v, c) ∈ acc) → (l.foldl unlT acc).length = acc.length := by
 induction l with
 | nil => intro acc _; rfl
 | cons x l ih =>
  intro acc h
  have step : (unlT acc x).length = acc.length ∧ ∀ w, (∃ c, (w, c) ∈ acc) → ∃ c, (w, c) ∈ unlT acc x := by
   unfold unlT
   split
   ·exact ⟨rfl, fun w hw => hw⟩
   ·rename_i hk
    exact ⟨(seenS_hit acc _ (h x List.mem_cons_self hk)).1, fun w hw => seenS_keep acc _ w hw⟩
  rw [List.foldl_cons, ih _ fun v hv hk => step.2 _ (h v (List.mem_cons_of_mem _ hv) hk), step.1]
theorem unl_twice (l : List GV) : (unlS (l ++ l)).length = (unlS l).length := by
 have e : ∀ m : List GV, unlS m = m.foldl unlT [] := fun m => rfl
 rw [e, e, List.foldl_append]
 exact unl_same l _ fun v hv hk => unl_has l [] v hv hk
theorem goods_goodA (l : List GV) (h : l.all goodV = true) (r : Int) (hl : 1 ≤ l.length ∧ l.length ≤ 60) (hr : r = 1 ∨ r = 2) (m : List GV) (hm : (m.length : Int) = r * l.length) (hm2 : m.all goodV = true) : goodA ⟨r, l.length, m, true⟩ = true := by
 refine goodA_yes ⟨?_, ?_, ?_, ?_, hm⟩ hm2
 ·show 1 ≤ r; omega
 ·show (1 : Int) ≤ l.length; omega
 ·show r ≤ 4096; omega
 ·show (l.length : Int) ≤ 4096; omega
theorem find_CU : Ret Try.prog F_lookup_find [.str ⟨#[67, 79, 85, 78, 84, 85, 78, 73, 81, 85, 69]⟩] (.tup [.fn F_lookup_sized_1 [] [.elem [.fn F_lookup_unlike [] []]], .int .i64 1, .int .i64 1]) := by
 refine r_lookup_find rfl fun hw => ?_
 clear hw
 repeat' ((conv => whnf); (first | refine csp (fun h => ?_) (fun h => ?_) | refine cllo (lookup_sized_g _) (fun _ => ?_) | (refine sda ?_ ?_; (focus (first | rfl | (simp; done)))) | refine sda ?_ ?_ | refine conk rfl ?_ | refine ldk rfl ?_ | refine mapk (fun x hx => ?_) | exact ⟨rfl, rfl⟩ | refine nilk (fun h => ?_) ?_ | intro hl))
 all_goals conv => whnf
theorem find_RW : Ret Try.prog F_lookup_find [.str ⟨#[82, 79, 87, 83]⟩] (.tup [.fn F_lookup_sized_1 [] [.elem [.fn F_lookup_find_1 [] []]], .int .i64 1, .int .i64 1]) := by
 refine r_lookup_find rfl fun hw => ?_
 clear hw
 repeat' ((conv => whnf); (first | refine csp (fun h => ?_) (fun h => ?_) | refine cllo (lookup_sized_g _) (fun _ => ?_) | (refine sda ?_ ?_; (focus (first | rfl | (simp; done)))) | refine sda ?_ ?_ | refine conk rfl ?_ | refine ldk rfl ?_ | refine mapk (fun x hx => ?_) | exact ⟨rfl, rfl⟩ | refine nilk (fun h => ?_) ?_ | intro hl))
 all_goals conv => whnf
theorem sized_n (F : FuncId) (a : Ar) (n : Int) (hg : goodA a = true) (hf : Ret Try.prog F [eA a] (.int .i64 n)) : Ret Try.prog F_lookup_sized_1 [.row false [cA a], .elem [.fn F [] []]] (eV (ofS (IntKind.i64.wrap (n * 10000)) true)) := by
 refine r_lookup_sized_1 rfl fun hw => ?_
 clear hw
 repeat' ((conv => whnf); (first | refine csp (fun h => ?_) (fun h => ?_) | refine cllo (goods1 a hg) (fun _ => ?_) | refine cllo (value_Bad _) (fun _ => ?_) | refine cllo (hf) (fun _ => ?_) | refine cllo (lookup_whole _) (fun _ => ?_) | (refine sda ?_ ?_; (focus (first | rfl | (simp; done)))) | refine sda ?_ ?_ | refine conk rfl ?_ | refine ldk rfl ?_ | refine mapk (fun x hx => ?_) | exact ⟨rfl, rfl⟩ | refine nilk (fun h => ?_) ?_ | intro hl))
 all_goals conv => whnf
theorem ask_sz (nm : ByteArray) (F : FuncId) (a : Ar) (n : Int) (hn : 0 ≤ n ∧ n ≤ 4096) (hg : goodA a = true) (hf : Ret Try.prog F [eA a] (.int .i64 n)) (hfd : Ret Try.prog F_lookup_find [.str nm] (.tup [.fn F_lookup_sized_1 [] [.elem [.fn F [] []]], .int .i64 1, .int .i64 1])) :
  Ret Try.prog F_octavolaw21_ask [.str nm, .row false [cA a]] (eV ⟨1, n * 10000, e0⟩) := by
 have hs := sized_n F a n hg hf
 rw [w64 (by omega), ofS, if_pos (by simp [goodN]; omega)] at hs
 have hc : Ret Try.prog F_lookup_Call [.str nm, .row false [cA a]] (.tup [eV ⟨1, n * 10000, e0⟩, .bool true]) := by
  refine r_lookup_Call rfl fun hw => ?_
  clear hw
  repeat' ((conv => whnf); (first | refine csp (fun h => ?_) (fun h => ?_) | refine cllo (hfd) (fun _ => ?_) | refine cllo (hs) (fun _ => ?_) | refine cllo (value_Bad _) (fun _ => ?_) | (refine sda ?_ ?_; (focus (first | rfl | (simp; done)))) | refine sda ?_ ?_ | refine conk rfl ?_ | refine ldk rfl ?_ | refine mapk (fun x hx => ?_) | exact ⟨rfl, rfl⟩ | refine nilk (fun h => ?_) ?_ | intro hl))
  all_goals conv => whnf
 refine r_octavolaw21_ask rfl fun hw => ?_
 clear hw
 repeat' ((conv => whnf); (first | refine csp (fun h => ?_) (fun h => ?_) | refine cllo (hc) (fun _ => ?_) | (refine sda ?_ ?_; (focus (first | rfl | (simp; done)))) | refine sda ?_ ?_ | refine conk rfl ?_ | refine ldk rfl ?_ | refine mapk (fun x hx => ?_) | exact ⟨rfl, rfl⟩ | refine nilk (fun h => ?_) ?_ | intro hl))
 all_goals conv => whnf
theorem bytesk {a b : Nat} (h1 : a ≤ 1000000) (h2 : Nat.ble b 1000 = true) : Nat.le (a * b) 140737488355327 := by
 have := Nat.le_of_ble_eq_true h2
 have := Nat.mul_le_mul h1 this
 show a * b ≤ 140737488355327
 omega
theorem lookupCounts_ret (l : List GV) (h1 : l.length * 32 ≤ 140737488351232 ∧ l.length ≤ 9223372036854775807 ∧ ∀ x ∈ l, ((IntKind.i64.wrap x.k = x.k) ∧ ((IntKind.i64.wrap x.n = x.n) ∧ (x.s.size ≤ 140737488351232)))) : Ret Try.prog F_octavolaw21_LookupCounts [.row false (l.map cV)] (.bool true) := by
 refine r_octavolaw21_LookupCounts rfl fun hw => ?_
 clear hw
 repeat' ((conv => whnf); (first | refine csp (fun h => ?_) (fun h => ?_) | refine cllo (lives) (fun _ => ?_) | (refine sda ?_ ?_; (focus (first | rfl | (simp; done)))) | refine sda ?_ ?_ | refine conk rfl ?_ | refine ldk rfl ?_ | refine mapk (fun x hx => ?_) | exact ⟨rfl, rfl⟩ | refine nilk (fun h => ?_) ?_ | intro hl))
 all_goals conv => whnf
 try simp only [tz] at *
 refine .inl ⟨Nat, [0, 17, 18, 19], [], fun i => [(0, .row false (l.map cV)), (17, .row false (l.map cV)), (18, .int .i64 l.length), (19, .int .i64 i)], fun _ => [], fun i => i ≤ l.length ∧ (l.take i).all goodV = true, fun i => l.length - i, rfl, ?_, fun i hi => ?_⟩
 ·exact ⟨0, rfl, rfl, by simp⟩
 obtain ⟨hi1, hi2⟩ := hi
 have hlen : 1 ≤ l.length ∧ l.length ≤ 60 := by omega
 have hcl : (l.map cV).length = l.length := List.length_map ..
 rcases Nat.lt_or_ge i l.length with hlt | hge
 ·have hlt' : decide ((i : Int) < (l.length : Int)) = true := decide_eq_true (by omega)
  have hw1 := w64 (n := (i : Int) + 1) (by omega)
  repeat' ((conv => whnf); (first | refine csp_t ((hlt')) ?_ | refine pickk0 ?_ | refine csp (fun h => ?_) (fun h => ?_) | refine cllo (ref06_Good _) (fun _ => ?_) | refine cllo (lives) (fun _ => ?_) | (refine sda ?_ ?_; (focus (first | rfl | exact of_decide_eq_true rfl | (simp; done)))) | refine sda ?_ ?_ | refine conk rfl ?_ | refine ldk rfl ?_ | refine mapk (fun x hx => ?_) | exact ⟨rfl, rfl⟩ | refine nilk (fun h => absurd h (of_decide_eq_false rfl)) ?_ | refine nilk (fun h => absurd h (List.cons_ne_nil _ _)) ?_ | refine nilk (fun h => ?_) ?_ | exact rfl | refine leftk1 rfl ?_ | refine bytk8 rfl ?_ | refine bytk rfl ?_ | exact leftk0 rfl | refine eqk rfl ?_ | refine fLm rfl ?_ | refine fLk (by assumption) ?_ | refine fVk ?_ | refine fLVk ?_ | refine fWk ?_ | intro hl))
  all_goals conv => whnf
  all_goals try simp only [tz] at *
  ·omega
  ·have hx' : l[i]? = some x := by simpa using hx
   exact ⟨i + 1, by rw [hw1]; rfl, trivial, ⟨by omega, take_good hx' hi2 h⟩, by omega⟩
 ·have hlt' : decide ((i : Int) < (l.length : Int)) = false := decide_eq_false (by omega)
  have e : l.take i = l := List.take_of_length_le hge
  rw [e] at hi2
  have hga : goodA ⟨1, (l.map cV).length, l, true⟩ = true := by rw [hcl]; exact goods_goodA l hi2 1 hlen (.inl rfl) l (by omega) hi2
  have hgb : goodA ⟨2, (l.map cV).length, l ++ l, true⟩ = true := by rw [hcl]; exact goods_goodA l hi2 2 hlen (.inr rfl) (l ++ l) (by rw [List.length_append]; omega) (by rw [List.all_append, hi2]; rfl)
  have hu := unlS_len l
  have q1 : Ret Try.prog F_octavolaw21_ask [.str ⟨#[67, 79, 85, 78, 84, 85, 78, 73, 81, 85, 69]⟩, .row false [cA ⟨1, (l.map cV).length, l, true⟩]] (eV ⟨1, (unlS l).length * 10000, e0⟩) := ask_sz _ _ ⟨1, (l.map cV).length, l, true⟩ (unlS l).length (by omega) hga (unlike_r ⟨1, (l.map cV).length, l, true⟩ hga) find_CU
  have q2 : Ret Try.prog F_octavolaw21_ask [.str ⟨#[67, 79, 85, 78, 84, 85, 78, 73, 81, 85, 69]⟩, .row false [cA ⟨2, (l.map cV).length, l ++ l, true⟩]] (eV ⟨1, (unlS l).length * 10000, e0⟩) := ask_sz _ _ ⟨2, (l.map cV).length, l ++ l, true⟩ (unlS l).length (by omega) hgb (by have := unlike_r ⟨2, (l.map cV).length, l ++ l, true⟩ hgb; rw [unl_twice] at this; exact this) find_CU
  have q3 : Ret Try.prog F_octavolaw21_ask [.str ⟨#[82, 79, 87, 83]⟩, .row false [cA ⟨2, (l.map cV).length, l ++ l, true⟩]] (eV ⟨1, 2 * 10000, e0⟩) := ask_sz _ _ ⟨2, (l.map cV).length, l ++ l, true⟩ 2 (by omega) hgb (find_1r ⟨2, (l.map cV).length, l ++ l, true⟩) find_RW
  have hie : (l.map cV).isEmpty = false := by
   cases l with
   | nil => simp at hlen
   | cons x l => rfl
  have hsz : ∀ e ∈ l.map cV, e.length = 3 := fun e he => by
   obtain ⟨v, _, rfl⟩ := List.mem_map.1 he
   rfl
  have hlf : ∀ e ∈ l.map cV, ∀ c ∈ e, leafV c = true := fun e he c hc => by
   obtain ⟨v, _, rfl⟩ := List.mem_map.1 he
   simp only [cV, List.mem_cons, List.not_mem_nil, or_false] at hc
   rcases hc with rfl | rfl | rfl <;> rfl
  have hrow : List.take (([] ++ List.map cV l).length + (List.map cV l).length) (List.drop 0 ([] ++ List.map cV l ++ List.map cV l)) = (l ++ l).map cV := by
   rw [List.drop_zero, List.nil_append, List.map_append, List.take_of_length_le (by rw [List.length_append]; exact Nat.le_refl _)]
  repeat' ((conv => whnf); (first | refine csp_f ((hlt')) ?_ | refine csp_f ((hie)) ?_ | (rw [hrow]) | refine pickk0 ?_ | refine csp (fun h => ?_) (fun h => ?_) | refine cllo (q1) (fun _ => ?_) | refine cllo (q2) (fun _ => ?_) | refine cllo (q3) (fun _ => ?_) | refine cllo (lives) (fun _ => ?_) | (refine sda ?_ ?_; (focus (first | rfl | exact of_decide_eq_true rfl | (simp; done)))) | refine sda ?_ ?_ | refine conk rfl ?_ | refine ldk rfl ?_ | refine mapk (fun x hx => ?_) | exact ⟨rfl, rfl⟩ | refine nilk (fun h => absurd h (of_decide_eq_false rfl)) ?_ | refine nilk (fun h => absurd h (List.cons_ne_nil _ _)) ?_ | refine nilk (fun h => ?_) ?_ | exact rfl | refine leftk1 rfl ?_ | refine bytk8 rfl ?_ | refine bytk rfl ?_ | exact leftk0 rfl | refine eqk rfl ?_ | refine fLm rfl ?_ | refine fLk (by assumption) ?_ | refine fVk ?_ | refine fLVk ?_ | refine fWk ?_ | intro hl))
  all_goals conv => whnf
  ·exact hsz _ (by assumption)
  ·refine bytesk ?_ (by kernel_rfl)
   rw [hcl]
   simp only [List.length_nil]
   omega
  ·exact hsz _ (by assumption)
  ·exact hlf _ (by assumption) _ (by assumption)
  ·refine bytesk ?_ (by kernel_rfl)
   rw [List.nil_append, hcl]
   omega
  ·have h2 := of_decide_eq_false h
   rw [hcl, w64 (by omega)] at h2
   exact absurd (show (((unlS l).length : Nat) : Int) * 10000 ≤ (l.length : Int) * 10000 by omega) h2
  ·simp at h
end Go.Proofs.Ytkkfclpodgagdaa
