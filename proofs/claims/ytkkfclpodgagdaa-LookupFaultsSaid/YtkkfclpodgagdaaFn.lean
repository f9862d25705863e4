/- What the functions answer, and the law. -/
import Derived.Test.YtkkfclpodgagdaaR
import Derived.Test.YtkkfclpodgagdaaB
import Derived.Test.YtkkfclpodgagdaaPl
set_option maxRecDepth 100000
set_option linter.all false
namespace Go.Proofs.Ytkkfclpodgagdaa
open Ab R
theorem tz : (∀ (p : Prop) [Decidable p], (decide p = true) = p) ∧ (∀ (p : Prop) [Decidable p], (decide p = false) = ¬p) ∧ (∀ b : Bool, ((!b) = true) = (b = false)) ∧ (∀ b : Bool, ((!b) = false) = (b = true)) ∧
  (∀ (α β : Type) (f : α → β) (l : List α), (l.map f).length = l.length) ∧ (∀ a b : Int, (¬a < b) = (b ≤ a)) ∧ (∀ a b : Int, (¬a ≤ b) = (b < a)) ∧ (∀ (p : Prop) [Decidable p], (¬¬p) = p) ∧ (∀ (α : Type) [LT α] (a b : α), (a > b) = (b < a)) ∧ ∀ (α : Type) [LE α] (a b : α), (a ≥ b) = (b ≤ a) :=
 ⟨fun p _ => by simp, fun p _ => by simp, fun b => by simp, fun b => by simp, fun α β f l => by simp, fun a b => by simp, fun a b => by simp, fun p _ => by simp, fun α _ a b => rfl, fun α _ a b => rfl⟩
theorem cllo {P : Program} {g : FuncId} {args : List V} {r : V} {K : V → Prop} {B : Prop} (h : Ret P g args r) (k : wfV 8 r → K r) : (∃ r, Ret P g args r ∧ (wfV 8 r → K r)) ∨ B := .inl ⟨r, h, k⟩
theorem cle {P : Program} {g : FuncId} {args : List V} {Q : V → Prop} {K : V → Prop} {A B C : Prop} (h : RetE P g args Q) (k : ∀ r, Q r → wfV 8 r → K r) : A ∨ B ∨ C ∨ (∃ Q, RetE P g args Q ∧ ∀ r, Q r → wfV 8 r → K r) := .inr (.inr (.inr ⟨Q, h, k⟩))
theorem fLm {α : Type} {s : List O} {l : List α} {f : α → List Nat} {K : List O → Prop} (h : l.flatMap f = []) (k : K s) : fL fO (Ab.mark s (l.flatMap f)) K := by rw [fL_eq fO_eq, h]; exact k
theorem fVk {n : Nat} {v : V} {K : V → Prop} (h : K v) : fV n v K := by rw [fV_eq]; exact h
theorem fLVk {n : Nat} {l : List V} {K : List V → Prop} (h : K l) : fL (fV n) l K := by rw [fL_eq (fV_eq n)]; exact h
theorem fWk {n : Nat} {v : V} {K : V → Prop} (h : K v) : fW n v K := by rw [fW_eq]; exact h
theorem pickk : ∀ {cs : List Nat} {n : Nat} {K : Nat → Prop}, K n → pickN cs n K
 | [], _, _, h => h
 | c :: cs, n, K, h => by
  simp only [pickN]
  cases q : Nat.beq c n
  ·exact pickk h
  ·rw [Nat.eq_of_beq_eq_true q]; exact h
theorem pickk0 {cs : List Nat} {c n : Nat} {K : Nat → Prop} (h : K n) : pickN (c :: cs) n K := pickk h
structure Sv (s : List O) : Prop where
theorem fLk {s : List O} {K : List O → Prop} (_ : Sv s) (h : K s) : fL fO s K := by rw [fL_eq fO_eq]; exact h
theorem nilk {p A B : Prop} (a : p → A) (b : B) : (p → A) ∧ B := ⟨a, b⟩
theorem sda {p q : Prop} (h : p) (k : q) : Sd p ∧ q := ⟨⟨h⟩, k⟩
theorem conk {els : List (List V)} {i : Nat} {c : List V} {K : List V → Prop} (h : els[i]? = some c) (k : K c) : ∀ cs, els[i]? = some cs → K cs := fun cs hcs => by
 rw [h] at hcs
 rw [← Option.some.inj hcs]
 exact k
theorem ldk {o : Option V} {w : V} {K : V → Prop} (h : o = some w) (k : K w) : ∀ v, o = some v → K v := fun v hv => by
 rw [h] at hv
 rw [← Option.some.inj hv]
 exact k
theorem mapk {α : Type} {l : List α} {f : α → List V} {i : Nat} {K : List V → Prop} (h : ∀ x, l[i]? = some x → K (f x)) : ∀ cs, (l.map f)[i]? = some cs → K cs := fun cs hcs => by
 rw [List.getElem?_map] at hcs
 cases hx : l[i]? with
 | none => rw [hx] at hcs; cases hcs
 | some x => rw [hx] at hcs; obtain rfl := Option.some.inj hcs; exact h x hx
theorem eqk {α : Type} {o : Option α} {w : α} {K : α → Prop} (h : o = some w) (k : K w) : ∀ v, o = some v → K v := fun v hv => by
 rw [h] at hv
 rw [← Option.some.inj hv]
 exact k
theorem leftk1 {es : List (Nat × V × V)} {seen : List Nat} {a : Nat × V × V} {K : Nat × V × V → Prop} (h : leftM es seen = [a]) (k : K a) : ∀ y, y ∈ leftM es seen → K y := fun y hy => by
 rw [h, List.mem_singleton] at hy
 rw [hy]
 exact k
theorem leftk0 {es : List (Nat × V × V)} {seen : List Nat} {K : Nat × V × V → Prop} (h : leftM es seen = []) : ∀ y, y ∈ leftM es seen → K y := fun y hy => by
 rw [h] at hy
 cases hy
theorem bytk {els : List (List V)} {l : List Int} {K : List Int → Prop} (h : bytesV els = some l) (k : K l) : (∀ l, bytesV els = some l → K l) ∧ Sd ((bytesV els).isSome = true) := by
 refine ⟨fun l' hl => ?_, ⟨by rw [h]; rfl⟩⟩
 rw [h] at hl
 rw [← Option.some.inj hl]
 exact k
theorem bytk8 {els : List (List V)} {c : List UInt8} {K : List Int → Prop} (h : els = c.map fun c => [V.int .u8 c.toNat]) (k : K (c.map fun c => (c.toNat : Int))) : (∀ l, bytesV els = some l → K l) ∧ Sd ((bytesV els).isSome = true) :=
 bytk (h ▸ bytesV_map (fun c : UInt8 => (c.toNat : Int)) c) k
structure GV where
 k : Int
 n : Int
 s : ByteArray
abbrev cV (v : GV) : List V := [.int .i64 v.k, .int .i64 v.n, .str v.s]
abbrev eV (v : GV) : V := .agg (cV v)
structure Ar where
 rows : Int
 cols : Int
 l : List GV
 many : Bool
abbrev cA (a : Ar) : List V := [.int .i64 a.rows, .int .i64 a.cols, .row false (a.l.map cV), .bool a.many]
abbrev eA (a : Ar) : V := .agg (cA a)
abbrev e0 : ByteArray := ⟨#[]⟩
def badS (n : Int) : GV := ⟨4, if n < 1 ∨ n > 8 then 2 else n, e0⟩
theorem value_Bad (n : Int) : Ret Try.prog F_value_Bad [.int .i64 n] (eV (badS n)) := by
 refine r_value_Bad rfl fun _ => ?_
 ((conv => whnf); refine csp (fun h => ?_) (fun h => ?_))
 ·conv => whnf
  simp_all [badS]
 ·((conv => whnf); refine csp (fun h => ?_) (fun h => ?_))
  ·conv => whnf
   simp_all [badS]
  ·conv => whnf
   simp_all [badS]
   omega
def goodN (n : Int) : Bool := decide (-100000000000 ≤ n ∧ n ≤ 100000000000)
theorem num_Good (n : Int) : Ret Try.prog F_num_Good [.int .i64 n] (.bool (goodN n)) := by
 refine r_num_Good rfl fun _ => ?_
 ((conv => whnf); refine csp (fun h => ?_) (fun h => ?_))
 ·conv => whnf
  simp_all [goodN]
 ·conv => whnf
  simp_all [goodN]
  try omega
def ofS (n : Int) (ok : Bool) : GV := if ok && goodN n then ⟨1, n, e0⟩ else badS 5
theorem value_Of (n : Int) (ok : Bool) : Ret Try.prog F_value_Of [.int .i64 n, .bool ok] (eV (ofS n ok)) := by
 refine r_value_Of rfl fun _ => ?_
 ((conv => whnf); refine csp (fun h => ?_) (fun h => ?_))
 ·refine cllo (num_Good _) (fun _ => ?_)
  ((conv => whnf); refine csp (fun h => ?_) (fun h => ?_))
  ·conv => whnf
   simp_all [ofS]
  ·refine cllo (value_Bad _) (fun _ => ?_)
   conv => whnf
   simp_all [ofS]
 ·refine cllo (value_Bad _) (fun _ => ?_)
  conv => whnf
  simp_all [ofS]
def ownS (v : GV) : V :=
 if v.k = 0 then .iface 76 (.agg []) else if v.k = 1 then .iface 77 (.int .i64 v.n) else if v.k = 2 then .iface 79 (.str v.s)
 else if v.k = 3 then .iface 78 (.bool (!decide (v.n = 0))) else if v.k = 4 then .iface 82 (.int .i64 v.n) else .nilI
theorem value_own (v : GV) : Ret Try.prog F_value_own [eV v] (ownS v) := by
 refine r_value_own rfl fun _ => ?_
 ((conv => whnf); refine csp (fun h => ?_) (fun h => ?_))
 ·conv => whnf
  simp_all [ownS]
 ((conv => whnf); refine csp (fun h => ?_) (fun h => ?_))
 ·conv => whnf
  simp_all [ownS]
 ((conv => whnf); refine csp (fun h => ?_) (fun h => ?_))
 ·conv => whnf
  simp_all [ownS]
 ((conv => whnf); refine csp (fun h => ?_) (fun h => ?_))
 ·conv => whnf
  simp_all [ownS]
 ((conv => whnf); refine csp (fun h => ?_) (fun h => ?_))
 ·conv => whnf
  simp_all [ownS]
 conv => whnf
 simp_all [ownS]
def goodV (v : GV) : Bool :=
 if v.k = 0 then decide (v.n = 0 ∧ v.s = e0) else if v.k = 1 then goodN v.n && decide (v.s = e0) else if v.k = 2 then decide (v.n = 0 ∧ v.s.size ≤ 255)
 else if v.k = 3 then decide ((v.n = 0 ∨ v.n = 1) ∧ v.s = e0) else if v.k = 4 then decide (1 ≤ v.n ∧ v.n ≤ 8 ∧ v.s = e0) else false
theorem own0 {v : GV} (h : v.k = 0) : Ret Try.prog F_value_own [eV v] (.iface 76 (.agg [])) := by have := value_own v; simpa [ownS, h] using this
theorem own1 {v : GV} (h : v.k = 1) : Ret Try.prog F_value_own [eV v] (.iface 77 (.int .i64 v.n)) := by have := value_own v; simpa [ownS, h] using this
theorem own2 {v : GV} (h : v.k = 2) : Ret Try.prog F_value_own [eV v] (.iface 79 (.str v.s)) := by have := value_own v; simpa [ownS, h] using this
theorem own3 {v : GV} (h : v.k = 3) : Ret Try.prog F_value_own [eV v] (.iface 78 (.bool (!decide (v.n = 0)))) := by have := value_own v; simpa [ownS, h] using this
theorem own4 {v : GV} (h : v.k = 4) : Ret Try.prog F_value_own [eV v] (.iface 82 (.int .i64 v.n)) := by have := value_own v; simpa [ownS, h] using this
theorem own5 {v : GV} (h : ¬ v.k = 0) (h1 : ¬ v.k = 1) (h2 : ¬ v.k = 2) (h3 : ¬ v.k = 3) (h4 : ¬ v.k = 4) : Ret Try.prog F_value_own [eV v] .nilI := by have := value_own v; simpa [ownS, h, h1, h2, h3, h4] using this
theorem value_Good (v : GV) : Ret Try.prog F_value_Good [eV v] (.bool (goodV v)) := by
 obtain ⟨k, n, s⟩ := v
 by_cases h0 : k = 0
 ·subst h0
  refine r_value_Good rfl fun _ => ?_
  repeat' ((conv => whnf); (first | refine csp (fun h => ?_) (fun h => ?_) | refine cllo (own0 rfl) (fun _ => ?_) | refine cllo (num_Good _) (fun _ => ?_) | (refine sda ?_ ?_; (focus (first | rfl | (simp; done)))) | refine sda ?_ ?_ | refine conk rfl ?_ | refine ldk rfl ?_ | refine mapk (fun x hx => ?_) | exact ⟨rfl, rfl⟩ | refine nilk (fun h => ?_) ?_ | intro hl))
  all_goals conv => whnf
  all_goals simp_all [goodV]
 by_cases h1 : k = 1
 ·subst h1
  refine r_value_Good rfl fun _ => ?_
  repeat' ((conv => whnf); (first | refine csp (fun h => ?_) (fun h => ?_) | refine cllo (own1 rfl) (fun _ => ?_) | refine cllo (num_Good _) (fun _ => ?_) | (refine sda ?_ ?_; (focus (first | rfl | (simp; done)))) | refine sda ?_ ?_ | refine conk rfl ?_ | refine ldk rfl ?_ | refine mapk (fun x hx => ?_) | exact ⟨rfl, rfl⟩ | refine nilk (fun h => ?_) ?_ | intro hl))
  all_goals conv => whnf
  all_goals simp_all [goodV]
 by_cases h2 : k = 2
 ·subst h2
  refine r_value_Good rfl fun _ => ?_
  repeat' ((conv => whnf); (first | refine csp (fun h => ?_) (fun h => ?_) | refine cllo (own2 rfl) (fun _ => ?_) | refine cllo (num_Good _) (fun _ => ?_) | (refine sda ?_ ?_; (focus (first | rfl | (simp; done)))) | refine sda ?_ ?_ | refine conk rfl ?_ | refine ldk rfl ?_ | refine mapk (fun x hx => ?_) | exact ⟨rfl, rfl⟩ | refine nilk (fun h => ?_) ?_ | intro hl))
  all_goals conv => whnf
  all_goals simp_all [goodV]
  all_goals omega
 by_cases h3 : k = 3
 ·subst h3
  refine r_value_Good rfl fun _ => ?_
  repeat' ((conv => whnf); (first | refine csp (fun h => ?_) (fun h => ?_) | refine cllo (own3 rfl) (fun _ => ?_) | refine cllo (num_Good _) (fun _ => ?_) | (refine sda ?_ ?_; (focus (first | rfl | (simp; done)))) | refine sda ?_ ?_ | refine conk rfl ?_ | refine ldk rfl ?_ | refine mapk (fun x hx => ?_) | exact ⟨rfl, rfl⟩ | refine nilk (fun h => ?_) ?_ | intro hl))
  all_goals conv => whnf
  all_goals simp_all [goodV]
 by_cases h4 : k = 4
 ·subst h4
  refine r_value_Good rfl fun _ => ?_
  repeat' ((conv => whnf); (first | refine csp (fun h => ?_) (fun h => ?_) | refine cllo (own4 rfl) (fun _ => ?_) | refine cllo (num_Good _) (fun _ => ?_) | (refine sda ?_ ?_; (focus (first | rfl | (simp; done)))) | refine sda ?_ ?_ | refine conk rfl ?_ | refine ldk rfl ?_ | refine mapk (fun x hx => ?_) | exact ⟨rfl, rfl⟩ | refine nilk (fun h => ?_) ?_ | intro hl))
  all_goals conv => whnf
  all_goals simp_all [goodV]
  all_goals omega
 ·refine r_value_Good rfl fun _ => ?_
  repeat' ((conv => whnf); (first | refine csp (fun h => ?_) (fun h => ?_) | refine cllo (own5 h0 h1 h2 h3 h4) (fun _ => ?_) | (refine sda ?_ ?_; (focus (first | rfl | (simp; done)))) | refine sda ?_ ?_ | refine conk rfl ?_ | refine ldk rfl ?_ | refine mapk (fun x hx => ?_) | exact ⟨rfl, rfl⟩ | refine nilk (fun h => ?_) ?_ | intro hl))
  all_goals conv => whnf
  all_goals simp_all [goodV]
def toNumS (v : GV) : Int × Int := if v.k = 0 then (0, 0) else if v.k = 1 then (v.n, 0) else if v.k = 3 then (if v.n = 0 then 0 else 10000, 0) else if v.k = 4 then (0, v.n) else (0, 2)
theorem value_ToNum (v : GV) (h2 : ¬ v.k = 2) : Ret Try.prog F_value_ToNum [eV v] (.tup [.int .i64 (toNumS v).1, .int .i64 (toNumS v).2]) := by
 obtain ⟨k, n, s⟩ := v
 by_cases h0 : k = 0
 ·subst h0
  refine r_value_ToNum rfl fun _ => ?_
  repeat' ((conv => whnf); (first | refine csp (fun h => ?_) (fun h => ?_) | refine cllo (own0 rfl) (fun _ => ?_) | (refine sda ?_ ?_; (focus (first | rfl | (simp; done)))) | refine sda ?_ ?_ | refine conk rfl ?_ | refine ldk rfl ?_ | refine mapk (fun x hx => ?_) | exact ⟨rfl, rfl⟩ | refine nilk (fun h => ?_) ?_ | intro hl))
  all_goals conv => whnf
  all_goals simp_all [toNumS]
 by_cases h1 : k = 1
 ·subst h1
  refine r_value_ToNum rfl fun _ => ?_
  repeat' ((conv => whnf); (first | refine csp (fun h => ?_) (fun h => ?_) | refine cllo (own1 rfl) (fun _ => ?_) | (refine sda ?_ ?_; (focus (first | rfl | (simp; done)))) | refine sda ?_ ?_ | refine conk rfl ?_ | refine ldk rfl ?_ | refine mapk (fun x hx => ?_) | exact ⟨rfl, rfl⟩ | refine nilk (fun h => ?_) ?_ | intro hl))
  all_goals conv => whnf
  all_goals simp_all [toNumS]
 by_cases h3 : k = 3
 ·subst h3
  refine r_value_ToNum rfl fun _ => ?_
  repeat' ((conv => whnf); (first | refine csp (fun h => ?_) (fun h => ?_) | refine cllo (own3 rfl) (fun _ => ?_) | (refine sda ?_ ?_; (focus (first | rfl | (simp; done)))) | refine sda ?_ ?_ | refine conk rfl ?_ | refine ldk rfl ?_ | refine mapk (fun x hx => ?_) | exact ⟨rfl, rfl⟩ | refine nilk (fun h => ?_) ?_ | intro hl))
  all_goals conv => whnf
  all_goals simp_all [toNumS]
 by_cases h4 : k = 4
 ·subst h4
  refine r_value_ToNum rfl fun _ => ?_
  repeat' ((conv => whnf); (first | refine csp (fun h => ?_) (fun h => ?_) | refine cllo (own4 rfl) (fun _ => ?_) | (refine sda ?_ ?_; (focus (first | rfl | (simp; done)))) | refine sda ?_ ?_ | refine conk rfl ?_ | refine ldk rfl ?_ | refine mapk (fun x hx => ?_) | exact ⟨rfl, rfl⟩ | refine nilk (fun h => ?_) ?_ | intro hl))
  all_goals conv => whnf
  all_goals simp_all [toNumS]
 ·refine r_value_ToNum rfl fun _ => ?_
  repeat' ((conv => whnf); (first | refine csp (fun h => ?_) (fun h => ?_) | refine cllo (own5 h0 h1 h2 h3 h4) (fun _ => ?_) | (refine sda ?_ ?_; (focus (first | rfl | (simp; done)))) | refine sda ?_ ?_ | refine conk rfl ?_ | refine ldk rfl ?_ | refine mapk (fun x hx => ?_) | exact ⟨rfl, rfl⟩ | refine nilk (fun h => ?_) ?_ | intro hl))
  all_goals conv => whnf
  all_goals simp_all [toNumS]
def goodA (a : Ar) : Bool := decide (1 ≤ a.rows ∧ 1 ≤ a.cols ∧ a.rows ≤ 4096 ∧ a.cols ≤ 4096 ∧ (a.l.length : Int) = a.rows * a.cols) && a.l.all goodV
theorem take_good {l : List GV} {i : Nat} {x : GV} {p : GV → Bool} (hx : l[i]? = some x) (h : (l.take i).all p = true) (hp : p x = true) : (l.take (i + 1)).all p = true := by
 rw [List.take_add_one, hx]
 simp only [Option.toList, List.all_append, h, List.all_cons, hp, List.all_nil, Bool.and_self]
theorem w64 {n : Int} (h : -9223372036854775808 ≤ n ∧ n ≤ 9223372036854775807) : IntKind.i64.wrap n = n := (wrap_iff .i64 n).2 (by simp only [kLo, kHi]; omega)
theorem mulb {r c : Int} (h1 : 1 ≤ r) (h2 : r ≤ 4096) (h3 : 1 ≤ c) (h4 : c ≤ 4096) : 1 ≤ r * c ∧ r * c ≤ 16777216 :=
 ⟨by have := Int.mul_le_mul h1 h3 (by omega) (by omega); omega, by have := Int.mul_le_mul h2 h4 (by omega) (by omega); omega⟩
theorem goodA_no {a : Ar} {i : Nat} {x : GV} (hx : a.l[i]? = some x) (h : goodV x = false) : goodA a = false := by
 unfold goodA
 rw [Bool.and_eq_false_iff]
 right
 rw [List.all_eq_false]
 exact ⟨x, List.mem_of_getElem? hx, by simp [h]⟩
theorem goodA_bad {a : Ar} (h : ¬ (1 ≤ a.rows ∧ 1 ≤ a.cols ∧ a.rows ≤ 4096 ∧ a.cols ≤ 4096 ∧ (a.l.length : Int) = a.rows * a.cols)) : goodA a = false := by
 unfold goodA
 rw [decide_eq_false h, Bool.false_and]
theorem goodA_yes {a : Ar} (h : 1 ≤ a.rows ∧ 1 ≤ a.cols ∧ a.rows ≤ 4096 ∧ a.cols ≤ 4096 ∧ (a.l.length : Int) = a.rows * a.cols) (hl : a.l.all goodV = true) : goodA a = true := by
 unfold goodA
 rw [decide_eq_true h, hl, Bool.true_and]
theorem maths_Good (a : Ar) : Ret Try.prog F_maths_Good [eA a] (.bool (goodA a)) := by
 refine r_maths_Good rfl fun hw => ?_
 clear hw
 repeat' ((conv => whnf); (first | refine csp (fun h => ?_) (fun h => ?_) | (refine sda ?_ ?_; (focus (first | rfl | (simp; done)))) | refine sda ?_ ?_ | refine conk rfl ?_ | refine ldk rfl ?_ | refine mapk (fun x hx => ?_) | exact ⟨rfl, rfl⟩ | refine nilk (fun h => ?_) ?_ | intro hl))
 rotate_right
 ·try simp only [tz] at *
  have hm := mulb (r := a.rows) (c := a.cols) (by omega) (by omega) (by omega) (by omega)
  have hL : (a.l.length : Int) = a.rows * a.cols := by
   have := w64 (n := a.rows * a.cols) (by omega)
   omega
  refine .inl ⟨Int, [35, 36, 37], [], fun i => [(35, .row false (a.l.map cV)), (36, .int .i64 a.l.length), (37, .int .i64 i)], fun _ => [], fun i => 0 ≤ i ∧ i ≤ a.l.length ∧ (a.l.take i.toNat).all goodV = true, fun i => (a.l.length - i).toNat, rfl, ?_, fun i hi => ?_⟩
  ·exact ⟨0, rfl, rfl, by simp⟩
  ·obtain ⟨hi0, hi1, hi2⟩ := hi
   repeat' ((conv => whnf); (first | refine csp (fun h => ?_) (fun h => ?_) | refine cllo (value_Good _) (fun _ => ?_) | (refine sda ?_ ?_; (focus (first | rfl | (simp; done)))) | refine sda ?_ ?_ | refine conk rfl ?_ | refine ldk rfl ?_ | refine mapk (fun x hx => ?_) | exact ⟨rfl, rfl⟩ | refine nilk (fun h => ?_) ?_ | intro hl))
   ·try simp only [tz] at *
    omega
   ·conv => whnf
    rw [goodA_no hx (by simpa using h)]
   ·conv => whnf
    try simp only [tz] at *
    have hw1 := w64 (n := i + 1) (by omega)
    refine ⟨i + 1, by rw [hw1], by trivial, ⟨by omega, by omega, ?_⟩, by omega⟩
    rw [show (i + 1).toNat = i.toNat + 1 by omega]
    exact take_good hx hi2 h
   ·conv => whnf
    try simp only [tz] at *
    rw [goodA_yes (by omega)]
    have : a.l.take i.toNat = a.l := List.take_of_length_le (by omega)
    rwa [this] at hi2
 all_goals conv => whnf
 all_goals try simp only [tz] at *
 ·rw [goodA_bad (by omega)]
 ·rw [goodA_bad (by omega)]
 ·rw [goodA_bad (by omega)]
 ·rw [goodA_bad (by omega)]
 ·have hm := mulb (r := a.rows) (c := a.cols) (by omega) (by omega) (by omega) (by omega)
  rw [w64 (by omega)] at h
  rw [goodA_bad (by omega)]
end Go.Proofs.Ytkkfclpodgagdaa
set_option maxRecDepth 100000
set_option linter.all false
namespace Go.Proofs.Ytkkfclpodgagdaa
open Ab R
def oneS (a : Ar) : GV := if a.l.length = 1 ∧ goodA a = true then a.l.headD ⟨0, 0, e0⟩ else badS 2
theorem maths_One (a : Ar) : Ret Try.prog F_maths_One [eA a] (eV (oneS a)) := by
 refine r_maths_One rfl fun hw => ?_
 clear hw
 repeat' ((conv => whnf); (first | refine csp (fun h => ?_) (fun h => ?_) | refine cllo (maths_Good _) (fun _ => ?_) | refine cllo (value_Bad _) (fun _ => ?_) | (refine sda ?_ ?_; (focus (first | rfl | (simp; done)))) | refine sda ?_ ?_ | refine conk rfl ?_ | refine ldk rfl ?_ | refine mapk (fun x hx => ?_) | exact ⟨rfl, rfl⟩ | refine nilk (fun h => ?_) ?_ | intro hl))
 all_goals conv => whnf
 all_goals try simp only [tz] at *
 ·rw [oneS, if_neg (fun q => by omega)]
 ·rw [oneS, if_neg (by rw [h]; simp)]
 ·omega
 ·obtain ⟨r, c, l, m⟩ := a
  cases l with
  | nil => cases hx
  | cons y l =>
   cases hx
   rw [oneS, if_pos ⟨by omega, h⟩]
   rfl
def wholeS (n : Int) : Int × Bool := if goodN n = true ∧ n.tmod 10000 = 0 then (n.tdiv 10000, true) else (0, false)
theorem tdivb {n : Int} (h : goodN n = true) : -10000000 ≤ n.tdiv 10000 ∧ n.tdiv 10000 ≤ 10000000 := by
 simp only [goodN, decide_eq_true_eq] at h
 rw [Int.tdiv_eq_ediv]
 split
 ·omega
 ·simp only [show Int.sign 10000 = 1 from rfl]
  omega
theorem i64b {i : Int} (h : wfV 8 (.int .i64 i)) : -9223372036854775808 ≤ i ∧ i ≤ 9223372036854775807 := by
 have := (wrap_iff .i64 i).1 h
 exact this
theorem num_Whole (n : Int) : Ret Try.prog F_num_Whole [.int .i64 n] (.tup [.int .i64 (wholeS n).1, .bool (wholeS n).2]) := by
 refine r_num_Whole rfl fun hw => ?_
 clear hw
 repeat' ((conv => whnf); (first | refine csp (fun h => ?_) (fun h => ?_) | refine cllo (num_Good _) (fun _ => ?_) | (refine sda ?_ ?_; (focus (first | rfl | (simp; done)))) | refine sda ?_ ?_ | refine conk rfl ?_ | refine ldk rfl ?_ | refine mapk (fun x hx => ?_) | exact ⟨rfl, rfl⟩ | refine nilk (fun h => ?_) ?_ | intro hl))
 all_goals conv => whnf
 all_goals try simp only [tz] at *
 ·rw [wholeS, if_neg (by simp [h])]
 ·rw [wholeS, if_neg (fun q => h q.2)]
 ·have h1 : goodN n = true := by assumption
  have := tdivb h1
  rw [wholeS, if_pos ⟨h1, h⟩, w64 (by omega)]
theorem goodA_out {a : Ar} (h : goodA a = true) : (1 ≤ a.rows ∧ 1 ≤ a.cols ∧ a.rows ≤ 4096 ∧ a.cols ≤ 4096 ∧ (a.l.length : Int) = a.rows * a.cols) ∧ a.l.all goodV = true := by
 unfold goodA at h
 simp only [Bool.and_eq_true, decide_eq_true_eq] at h
 exact h
theorem bytesb {a b : Nat} (h1 : a ≤ 11) (h2 : Nat.ble b 1000 = true) : Nat.le (a * b) 140737488355327 := by
 have := Nat.le_of_ble_eq_true h2
 have := Nat.mul_le_mul h1 this
 show a * b ≤ 140737488355327
 omega
end Go.Proofs.Ytkkfclpodgagdaa
set_option maxRecDepth 100000
set_option linter.all false
namespace Go.Proofs.Ytkkfclpodgagdaa
open Ab R
theorem goodV_size {v : GV} (h : goodV v = true) : v.s.size ≤ 255 := by
 unfold goodV at h
 split at h
 ·simp only [decide_eq_true_eq] at h; rw [h.2]; decide
 ·split at h
  ·simp only [Bool.and_eq_true, decide_eq_true_eq] at h; rw [h.2]; decide
  ·split at h
   ·simp only [decide_eq_true_eq] at h; exact h.2
   ·split at h
    ·simp only [decide_eq_true_eq] at h; rw [h.2]; decide
    ·split at h
     ·simp only [decide_eq_true_eq] at h; rw [h.2.2]; decide
     ·cases h
theorem goodV_bad (n : Int) : goodV (badS n) = true := by
 unfold goodV badS
 simp
 split <;> omega
theorem oneS_good (a : Ar) : goodV (oneS a) = true := by
 unfold oneS
 split
 ·rename_i h
  obtain ⟨h1, h2⟩ := h
  have h3 := (goodA_out h2).2
  match hl : a.l, h1 with
  | [x], _ => rw [hl] at h3; simpa using h3
 ·exact goodV_bad 2
theorem prs_bd (s : ByteArray) : -100000000000 ≤ (Nm.prs s).1 ∧ (Nm.prs s).1 ≤ 100000000000 := by
 have out_b : ∀ n : Int, -100000000000 ≤ (Nm.out n).1 ∧ (Nm.out n).1 ≤ 100000000000 := fun n => by
  unfold Nm.out
  split
  ·rename_i h; exact h
  ·simp
 have fin_b : ∀ b W R p, -100000000000 ≤ (Nm.fin b W R p).1 ∧ (Nm.fin b W R p).1 ≤ 100000000000 := fun b W R p => by
  unfold Nm.fin
  split
  ·exact out_b _
  ·simp
 unfold Nm.prs
 split
 ·exact fin_b _ _ _ _
 ·exact fin_b _ _ _ _
abbrev tn (v : GV) : Int × Int := Vl.tnum v.k v.n v.s
theorem ToNum_g (v : GV) (h : goodV v = true) : Ret Try.prog F_value_ToNum [eV v] (.tup [.int .i64 (tn v).1, .int .i64 (tn v).2]) := by
 by_cases h2 : v.k = 2
 ·have hs := goodV_size h
  have hb := prs_bd v.s
  have hp : Ret Try.prog F_num_Parse [.str v.s] (.tup [.int .i64 (Nm.prs v.s).1, .bool (Nm.prs v.s).2]) := c_num_Parse v.s _ _ (Nm.Parse_is (by omega)) (w64 (by omega))
  have ho := own2 h2
  have e : tn v = if (Nm.prs v.s).2 = true then ((Nm.prs v.s).1, 0) else (0, 2) := by simp [tn, Vl.tnum, h2]
  rw [e]
  refine r_value_ToNum rfl fun hw => ?_
  clear hw
  repeat' ((conv => whnf); (first | refine csp (fun h => ?_) (fun h => ?_) | refine cllo (ho) (fun _ => ?_) | refine cllo (hp) (fun _ => ?_) | (refine sda ?_ ?_; (focus (first | rfl | (simp; done)))) | refine sda ?_ ?_ | refine conk rfl ?_ | refine ldk rfl ?_ | refine mapk (fun x hx => ?_) | exact ⟨rfl, rfl⟩ | refine nilk (fun h => ?_) ?_ | intro hl))
  all_goals conv => whnf
  all_goals simp_all
 ·have e : tn v = toNumS v := by
   simp [tn, Vl.tnum, toNumS, h2]
   by_cases c : v.n = 0 <;> simp [c]
  rw [e]
  exact value_ToNum v h2
abbrev tb (v : GV) : Bool × Int := Vl.tboo v.k v.n v.s
theorem k_of {v : GV} (h : goodV v = true) : v.k = 0 ∨ v.k = 1 ∨ v.k = 2 ∨ v.k = 3 ∨ v.k = 4 := by
 by_cases h0 : v.k = 0
 ·exact .inl h0
 by_cases h1 : v.k = 1
 ·exact .inr (.inl h1)
 by_cases h2 : v.k = 2
 ·exact .inr (.inr (.inl h2))
 by_cases h3 : v.k = 3
 ·exact .inr (.inr (.inr (.inl h3)))
 by_cases h4 : v.k = 4
 ·exact .inr (.inr (.inr (.inr h4)))
 ·simp [goodV, h0, h1, h2, h3, h4] at h
theorem ToBool_g (v : GV) (h : goodV v = true) : Ret Try.prog F_value_ToBool [eV v] (.tup [.bool (tb v).1, .int .i64 (tb v).2]) := by
 have hs := goodV_size h
 have hp : Ret Try.prog F_value_word [.str v.s] (.tup [.bool (decide (Vl.wrd v.s = 1)), .bool (decide (Vl.wrd v.s ≥ 0))]) := c_value_word v.s _ _ (Vl.word_is (by omega))
 rcases k_of h with q | q | q | q | q
 ·have ho := own0 q
  refine r_value_ToBool rfl fun hw => ?_
  clear hw
  repeat' ((conv => whnf); (first | refine csp (fun h => ?_) (fun h => ?_) | refine cllo (ho) (fun _ => ?_) | refine cllo (hp) (fun _ => ?_) | (refine sda ?_ ?_; (focus (first | rfl | (simp; done)))) | refine sda ?_ ?_ | refine conk rfl ?_ | refine ldk rfl ?_ | refine mapk (fun x hx => ?_) | exact ⟨rfl, rfl⟩ | refine nilk (fun h => ?_) ?_ | intro hl))
  all_goals conv => whnf
  all_goals simp_all [tb, Vl.tboo]
 ·have ho := own1 q
  refine r_value_ToBool rfl fun hw => ?_
  clear hw
  repeat' ((conv => whnf); (first | refine csp (fun h => ?_) (fun h => ?_) | refine cllo (ho) (fun _ => ?_) | refine cllo (hp) (fun _ => ?_) | (refine sda ?_ ?_; (focus (first | rfl | (simp; done)))) | refine sda ?_ ?_ | refine conk rfl ?_ | refine ldk rfl ?_ | refine mapk (fun x hx => ?_) | exact ⟨rfl, rfl⟩ | refine nilk (fun h => ?_) ?_ | intro hl))
  all_goals conv => whnf
  all_goals simp_all [tb, Vl.tboo]
  by_cases c : v.n = 0 <;> simp [c]
 ·have ho := own2 q
  refine r_value_ToBool rfl fun hw => ?_
  clear hw
  repeat' ((conv => whnf); (first | refine csp (fun h => ?_) (fun h => ?_) | refine cllo (ho) (fun _ => ?_) | refine cllo (hp) (fun _ => ?_) | (refine sda ?_ ?_; (focus (first | rfl | (simp; done)))) | refine sda ?_ ?_ | refine conk rfl ?_ | refine ldk rfl ?_ | refine mapk (fun x hx => ?_) | exact ⟨rfl, rfl⟩ | refine nilk (fun h => ?_) ?_ | intro hl))
  all_goals conv => whnf
  all_goals simp_all [tb, Vl.tboo]
  rw [if_neg (by omega)]
  simp
 ·have ho := own3 q
  refine r_value_ToBool rfl fun hw => ?_
  clear hw
  repeat' ((conv => whnf); (first | refine csp (fun h => ?_) (fun h => ?_) | refine cllo (ho) (fun _ => ?_) | refine cllo (hp) (fun _ => ?_) | (refine sda ?_ ?_; (focus (first | rfl | (simp; done)))) | refine sda ?_ ?_ | refine conk rfl ?_ | refine ldk rfl ?_ | refine mapk (fun x hx => ?_) | exact ⟨rfl, rfl⟩ | refine nilk (fun h => ?_) ?_ | intro hl))
  all_goals conv => whnf
  all_goals simp_all [tb, Vl.tboo]
  by_cases c : v.n = 0 <;> simp [c]
 ·have ho := own4 q
  refine r_value_ToBool rfl fun hw => ?_
  clear hw
  repeat' ((conv => whnf); (first | refine csp (fun h => ?_) (fun h => ?_) | refine cllo (ho) (fun _ => ?_) | refine cllo (hp) (fun _ => ?_) | (refine sda ?_ ?_; (focus (first | rfl | (simp; done)))) | refine sda ?_ ?_ | refine conk rfl ?_ | refine ldk rfl ?_ | refine mapk (fun x hx => ?_) | exact ⟨rfl, rfl⟩ | refine nilk (fun h => ?_) ?_ | intro hl))
  all_goals conv => whnf
  all_goals simp_all [tb, Vl.tboo]
end Go.Proofs.Ytkkfclpodgagdaa
set_option maxRecDepth 100000
set_option linter.all false
namespace Go.Proofs.Ytkkfclpodgagdaa
open Ab R
theorem ref05_Good (n : Int) : Ret Try.prog F_octavoref05_Good [.int .i64 n] (.bool (goodN n)) := by
 refine r_octavoref05_Good rfl fun _ => ?_
 repeat' ((conv => whnf); (first | refine csp (fun h => ?_) (fun h => ?_) | (refine sda ?_ ?_; (focus (first | rfl | (simp; done)))) | refine sda ?_ ?_ | refine conk rfl ?_ | refine ldk rfl ?_ | refine mapk (fun x hx => ?_) | exact ⟨rfl, rfl⟩ | refine nilk (fun h => ?_) ?_ | intro hl))
 all_goals conv => whnf
 all_goals simp_all [goodN]
 all_goals omega
theorem ref06_Good (v : GV) : Ret Try.prog F_octavoref06_Good [eV v] (.bool (goodV v)) := by
 refine r_octavoref06_Good rfl fun hw => ?_
 clear hw
 repeat' ((conv => whnf); (first | refine csp (fun h => ?_) (fun h => ?_) | refine cllo (ref05_Good _) (fun _ => ?_) | (refine sda ?_ ?_; (focus (first | rfl | (simp; done)))) | refine sda ?_ ?_ | refine conk rfl ?_ | refine ldk rfl ?_ | refine mapk (fun x hx => ?_) | exact ⟨rfl, rfl⟩ | refine nilk (fun h => ?_) ?_ | intro hl))
 all_goals conv => whnf
 all_goals simp_all [goodV]
 all_goals omega
def lightV (n : Int) (v : GV) : Int := IntKind.i64.wrap (n + IntKind.i64.wrap ((v.s.size : Int).tdiv 50))
def lightA (n : Int) (a : Ar) : Int := a.l.foldl lightV (IntKind.i64.wrap (n + a.l.length))
def lightS (l : List Ar) : Bool := decide (l.foldl lightA l.length < 400)
theorem fold_take {α β : Type} {f : β → α → β} {b : β} {l : List α} {i : Nat} {x : α} (hx : l[i]? = some x) : (l.take (i + 1)).foldl f b = f ((l.take i).foldl f b) x := by
 rw [List.take_add_one, hx]
 simp [List.foldl_append]
theorem law_light (l : List Ar) : Ret Try.prog F_octavolaw21_light [.row false (l.map cA)] (.bool (lightS l)) := by
 refine r_octavolaw21_light rfl fun hw => ?_
 clear hw
 repeat' ((conv => whnf); (first | refine csp (fun h => ?_) (fun h => ?_) | (refine sda ?_ ?_; (focus (first | rfl | (simp; done)))) | refine sda ?_ ?_ | refine conk rfl ?_ | refine ldk rfl ?_ | refine mapk (fun x hx => ?_) | exact ⟨rfl, rfl⟩ | refine nilk (fun h => ?_) ?_ | intro hl))
 try simp only [tz] at *
 refine .inl ⟨Nat, [3, 10, 11, 12], [], fun i => [(3, .int .i64 ((l.take i).foldl lightA l.length)), (10, .row false (l.map cA)), (11, .int .i64 l.length), (12, .int .i64 i)], fun _ => [], fun i => i ≤ l.length, fun i => l.length - i, rfl, ?_, fun i hi => ?_⟩
 ·exact ⟨0, rfl, by trivial, Nat.zero_le _⟩
 ·repeat' ((conv => whnf); (first | refine csp (fun h => ?_) (fun h => ?_) | (refine sda ?_ ?_; (focus (first | rfl | (simp; done)))) | refine sda ?_ ?_ | refine conk rfl ?_ | refine ldk rfl ?_ | refine mapk (fun x hx => ?_) | exact ⟨rfl, rfl⟩ | refine nilk (fun h => ?_) ?_ | intro hl))
  ·try simp only [tz] at *
   omega
  ·rename Ar => y
   rename l[_]? = some y => hy
   have hy' : l[i]? = some y := hy
   have hly : y.l.length ≤ 9223372036854775807 := by simpa using hl
   have hlt := (List.getElem?_eq_some_iff.1 hy').1
   try simp only [tz] at *
   refine .inl ⟨Nat, [3, 10, 11, 12, 22, 23, 24], [], fun k => [(3, .int .i64 ((y.l.take k).foldl lightV (IntKind.i64.wrap ((l.take i).foldl lightA l.length + y.l.length)))), (10, .row false (l.map cA)), (11, .int .i64 l.length), (12, .int .i64 i), (22, .row false (y.l.map cV)), (23, .int .i64 y.l.length), (24, .int .i64 k)], fun _ => [], fun k => k ≤ y.l.length, fun k => y.l.length - k, rfl, ?_, fun k hk => ?_⟩
   ·exact ⟨0, rfl, by trivial, Nat.zero_le _⟩
   ·repeat' ((conv => whnf); (first | refine csp (fun h => ?_) (fun h => ?_) | (refine sda ?_ ?_; (focus (first | rfl | (simp; done)))) | refine sda ?_ ?_ | refine conk rfl ?_ | refine ldk rfl ?_ | refine mapk (fun x hx => ?_) | exact ⟨rfl, rfl⟩ | refine nilk (fun h => ?_) ?_ | intro hl))
    all_goals conv => whnf
    all_goals try simp only [tz] at *
    ·omega
    ·have hx' : y.l[k]? = some x := hx
     refine ⟨k + 1, ?_, by trivial, by omega, by omega⟩
     rw [fold_take hx', w64 (n := (k : Int) + 1) (by omega)]
     rfl
    ·refine ⟨i + 1, ?_, by trivial, by omega, by omega⟩
     have hk2 : y.l.take k = y.l := List.take_of_length_le (by omega)
     rw [fold_take hy', w64 (n := (i : Int) + 1) (by omega), hk2]
     rfl
  ·conv => whnf
   try simp only [tz] at *
   have : l.take i = l := List.take_of_length_le (by omega)
   rw [this]
   rfl
end Go.Proofs.Ytkkfclpodgagdaa
set_option maxRecDepth 100000
set_option linter.all false
namespace Go.Proofs.Ytkkfclpodgagdaa
open Ab R
theorem lookup_whole (k : Int) : Ret Try.prog F_lookup_whole [.int .i64 k] (eV (ofS (IntKind.i64.wrap (k * 10000)) true)) := by
 refine r_lookup_whole rfl fun hw => ?_
 repeat' ((conv => whnf); (first | refine csp (fun h => ?_) (fun h => ?_) | refine cllo (value_Of _ _) (fun _ => ?_) | (refine sda ?_ ?_; (focus (first | rfl | (simp; done)))) | refine sda ?_ ?_ | refine conk rfl ?_ | refine ldk rfl ?_ | refine mapk (fun x hx => ?_) | exact ⟨rfl, rfl⟩ | refine nilk (fun h => ?_) ?_ | intro hl))
 all_goals conv => whnf
def intsS (v : GV) : Int × Int := if 0 < (toNumS v).2 then (0, (toNumS v).2) else if (wholeS (toNumS v).1).2 = true then ((wholeS (toNumS v).1).1, 0) else (0, 5)
theorem lookup_ints (a : Ar) (h2 : ¬ (oneS a).k = 2) : Ret Try.prog F_lookup_ints [eA a] (.tup [.int .i64 (intsS (oneS a)).1, .int .i64 (intsS (oneS a)).2]) := by
 refine r_lookup_ints rfl fun hw => ?_
 clear hw
 repeat' ((conv => whnf); (first | refine csp (fun h => ?_) (fun h => ?_) | refine cllo (maths_One _) (fun _ => ?_) | refine cllo (value_ToNum _ h2) (fun _ => ?_) | refine cllo (num_Whole _) (fun _ => ?_) | (refine sda ?_ ?_; (focus (first | rfl | (simp; done)))) | refine sda ?_ ?_ | refine conk rfl ?_ | refine ldk rfl ?_ | refine mapk (fun x hx => ?_) | exact ⟨rfl, rfl⟩ | refine nilk (fun h => ?_) ?_ | intro hl))
 all_goals conv => whnf
 all_goals try simp only [tz] at *
 ·rw [intsS, if_pos h]
 ·rw [intsS, if_neg (by omega), if_neg (by simp [h])]
 ·rw [intsS, if_neg (by omega), if_pos h]
theorem grid_line (a : Ar) : Ret Try.prog F_lookup_grid_line [eA a] (.bool (decide (a.rows = 1 ∨ a.cols = 1))) := by
 refine r_lookup_grid_line rfl fun hw => ?_
 clear hw
 repeat' ((conv => whnf); (first | refine csp (fun h => ?_) (fun h => ?_) | (refine sda ?_ ?_; (focus (first | rfl | (simp; done)))) | refine sda ?_ ?_ | refine conk rfl ?_ | refine ldk rfl ?_ | refine mapk (fun x hx => ?_) | exact ⟨rfl, rfl⟩ | refine nilk (fun h => ?_) ?_ | intro hl))
 all_goals conv => whnf
 all_goals simp_all
theorem grid_nth (a : Ar) (i : Int) (v : GV) (hi : 1 ≤ i) (hv : a.l[(i - 1).toNat]? = some v) : Ret Try.prog F_lookup_grid_nth [eA a, .int .i64 i] (eV v) := by
 refine r_lookup_grid_nth rfl fun hw => ?_
 have hb := i64b (hw (.int .i64 i) (by simp))
 clear hw
 have hlt := (List.getElem?_eq_some_iff.1 hv).1
 have hw1 := w64 (n := i - 1) (by omega)
 repeat' ((conv => whnf); (first | refine csp (fun h => ?_) (fun h => ?_) | (refine sda ?_ ?_; (focus (first | rfl | (simp; done)))) | refine sda ?_ ?_ | refine conk rfl ?_ | refine ldk rfl ?_ | refine mapk (fun x hx => ?_) | exact ⟨rfl, rfl⟩ | refine nilk (fun h => ?_) ?_ | intro hl))
 all_goals conv => whnf
 all_goals try simp only [tz] at *
 ·rw [hw1]
  omega
 ·rw [hw1] at hx
  rw [hx] at hv
  rw [Option.some.inj hv]
def atS (a : Ar) (r c : Int) : GV := if r < 1 ∨ r > a.rows ∨ c < 1 ∨ c > a.cols then badS 3 else (a.l[((r - 1) * a.cols + c - 1).toNat]?).getD ⟨0, 0, e0⟩
theorem at_in {r c m n : Int} (h1 : 1 ≤ r) (h2 : r ≤ m) (h3 : 1 ≤ c) (h4 : c ≤ n) (h5 : m ≤ 4096) (h6 : n ≤ 4096) : 0 ≤ (r - 1) * n ∧ (r - 1) * n + n ≤ m * n ∧ m * n ≤ 16777216 := by
 refine ⟨Int.mul_nonneg (by omega) (by omega), ?_, (mulb (by omega) h5 (by omega) h6).2⟩
 have : (r - 1) * n + n = r * n := by rw [Int.sub_mul]; omega
 rw [this]
 exact Int.mul_le_mul_of_nonneg_right h2 (by omega)
theorem grid_at (a : Ar) (r c : Int) (hg : goodA a = true) : Ret Try.prog F_lookup_grid_at [eA a, .int .i64 r, .int .i64 c] (eV (atS a r c)) := by
 refine r_lookup_grid_at rfl fun hw => ?_
 clear hw
 obtain ⟨⟨g1, g2, g3, g4, g5⟩, _⟩ := goodA_out hg
 repeat' ((conv => whnf); (first | refine csp (fun h => ?_) (fun h => ?_) | refine cllo (value_Bad _) (fun _ => ?_) | (refine sda ?_ ?_; (focus (first | rfl | (simp; done)))) | refine sda ?_ ?_ | refine conk rfl ?_ | refine ldk rfl ?_ | refine mapk (fun x hx => ?_) | exact ⟨rfl, rfl⟩ | refine nilk (fun h => ?_) ?_ | intro hl))
 all_goals conv => whnf
 all_goals try simp only [tz] at *
 ·rw [atS, if_pos (by omega)]
 ·rw [atS, if_pos (by omega)]
 ·rw [atS, if_pos (by omega)]
 ·rw [atS, if_pos (by omega)]
 ·have := at_in (r := r) (c := c) (m := a.rows) (n := a.cols) (by omega) (by omega) (by omega) (by omega) g3 g4
  rw [w64 (n := r - 1) (by omega), w64 (n := (r - 1) * a.cols) (by omega), w64 (n := (r - 1) * a.cols + c) (by omega), w64 (by omega)]
  omega
 ·have := at_in (r := r) (c := c) (m := a.rows) (n := a.cols) (by omega) (by omega) (by omega) (by omega) g3 g4
  rw [w64 (n := r - 1) (by omega), w64 (n := (r - 1) * a.cols) (by omega), w64 (n := (r - 1) * a.cols + c) (by omega), w64 (by omega)] at hx
  rw [atS, if_neg (by omega), hx]
  rfl
theorem take_all {l : List Ar} {n : Nat} {x : Ar} {p : Ar → Bool} (hx : l[n]? = some x) (h : (l.take n).all p = true) (hp : p x = true) : (l.take (n + 1)).all p = true := by
 rw [List.take_add_one, hx]
 simp only [Option.toList, List.all_append, h, List.all_cons, hp, List.all_nil, Bool.and_self]
theorem all_no {l : List Ar} {n : Nat} {x : Ar} {p : Ar → Bool} (hx : l[n]? = some x) (hp : p x = false) : l.all p = false := by
 rw [List.all_eq_false]
 exact ⟨x, List.mem_of_getElem? hx, by simp [hp]⟩
def goodsS (l : List Ar) : List Ar := if l.all goodA = true then l else []
theorem goods_no {l : List Ar} {n : Nat} {x : Ar} (hx : l[n]? = some x) (hp : goodA x = false) : goodsS l = [] := by
 rw [goodsS, if_neg (by rw [all_no hx hp]; decide)]
theorem lookup_goods (l : List Ar) (hs : l.length ≤ 10) : Ret Try.prog F_lookup_goods [.row false (l.map cA)] (.tup [.row false ((goodsS l).map cA), .bool (l.all goodA)]) := by
 refine r_lookup_goods rfl fun hw => ?_
 clear hw
 repeat' ((conv => whnf); (first | refine csp (fun h => ?_) (fun h => ?_) | (refine sda ?_ ?_; (focus (first | rfl | (simp; done)))) | refine sda ?_ ?_ | refine conk rfl ?_ | refine ldk rfl ?_ | refine mapk (fun x hx => ?_) | exact ⟨rfl, rfl⟩ | refine nilk (fun h => ?_) ?_ | intro hl))
 refine .inl ⟨Nat, [4, 7, 8, 9], [2], fun n => [(4, match n with | 0 => .row true [] | n + 1 => .sl 0 0 (n + 1)), (7, .row false (l.map cA)), (8, .int .i64 (l.map cA).length), (9, .int .i64 n)], fun n => [match n with | 0 => .gone | n + 1 => .arr true 4 ((l.take (n + 1)).map cA)], fun n => n ≤ l.length ∧ (l.take n).all goodA = true, fun n => l.length - n, rfl, ?_, fun n hn => ?_⟩
 ·exact ⟨0, rfl, rfl, by simp⟩
 ·obtain ⟨hn1, hn2⟩ := hn
  cases n with
  | zero =>
   repeat' ((conv => whnf); (first | refine csp (fun h => ?_) (fun h => ?_) | refine cllo (maths_Good _) (fun _ => ?_) | (refine sda ?_ ?_; (focus (first | rfl | (simp; done)))) | refine sda ?_ ?_ | refine conk rfl ?_ | refine ldk rfl ?_ | refine mapk (fun x hx => ?_) | exact ⟨rfl, rfl⟩ | refine nilk (fun h => ?_) ?_ | intro hl))
   ·try simp only [tz] at *
    omega
   ·conv => whnf
    rw [goods_no hx (by simpa using h), all_no hx (by simpa using h)]
    rfl
   ·have hl : _ ∈ [cA x] := hl
    rw [List.mem_singleton.1 hl]
    rfl
   ·exact Nat.le_of_ble_eq_true (by kernel_rfl)
   ·conv => whnf
    have hx' : l[0]? = some x := hx
    have h1 : l.take 1 = [x] := by rw [List.take_add_one, hx']; rfl
    have hlt := (List.getElem?_eq_some_iff.1 hx').1
    refine ⟨1, rfl, ?_, ⟨by omega, ?_⟩, by simp only; omega⟩
    ·show [O.arr true 4 [cA x]] = [O.arr true 4 ((l.take 1).map cA)]
     rw [h1]
     rfl
    ·exact take_all hx' hn2 (by simpa using h)
   ·conv => whnf
    try simp only [tz] at *
    obtain rfl : l = [] := List.eq_nil_of_length_eq_zero (by omega)
    rfl
  | succ n =>
   repeat' ((conv => whnf); (first | refine csp (fun h => ?_) (fun h => ?_) | refine cllo (maths_Good _) (fun _ => ?_) | (refine sda ?_ ?_; (focus (first | rfl | (simp; done)))) | refine sda ?_ ?_ | refine conk rfl ?_ | refine ldk rfl ?_ | refine mapk (fun x hx => ?_) | exact ⟨rfl, rfl⟩ | refine nilk (fun h => ?_) ?_ | intro hl))
   ·try simp only [tz] at *
    omega
   ·conv => whnf
    rw [goods_no hx (by simpa using h), all_no hx (by simpa using h)]
    rfl
   ·conv => whnf
    rw [List.length_map, List.length_take]
    omega
   ·have hl : _ ∈ [cA x] := hl
    rw [List.mem_singleton.1 hl]
    rfl
   ·rename_i e he c
    have he : e ∈ [cA x] := he
    rw [List.mem_singleton.1 he] at hl
    simp only [cA, List.mem_cons, List.not_mem_nil, or_false] at hl
    rcases hl with rfl | rfl | rfl | rfl <;> rfl
   ·refine bytesb ?_ (by kernel_rfl)
    show (List.map cA (List.take (n + 1) l)).length + 1 ≤ 11
    rw [List.length_map, List.length_take]
    omega
   ·conv => whnf
    have hx' : l[n + 1]? = some x := hx
    have hlt := (List.getElem?_eq_some_iff.1 hx').1
    have hln : (List.map cA (List.take (n + 1) l)).length = n + 1 := by rw [List.length_map, List.length_take]; omega
    have h1 : l.take (n + 1 + 1) = l.take (n + 1) ++ [x] := by rw [List.take_add_one (i := n + 1), hx']; rfl
    refine ⟨n + 2, ?_, ?_, ⟨by omega, take_all hx' hn2 (by simpa using h)⟩, by simp only; omega⟩
    ·show [(4, V.sl 0 0 ((List.map cA (List.take (n + 1) l)).length + 1)), (7, V.row false (List.map cA l)), (8, V.int IntKind.i64 (List.map cA l).length), (9, V.int IntKind.i64 (IntKind.i64.wrap (((n + 1 : Nat) : Int) + 1)))] = [(4, V.sl 0 0 (n + 1 + 1)), (7, V.row false (List.map cA l)), (8, V.int IntKind.i64 (List.map cA l).length), (9, V.int IntKind.i64 ((n + 1 + 1 : Nat) : Int))]
     rw [hln, w64 (by omega)]
     rfl
    ·show [O.arr true 4 (List.map cA (List.take (n + 1) l) ++ [cA x])] = [O.arr true 4 ((l.take (n + 1 + 1)).map cA)]
     rw [h1, List.map_append]
     rfl
   ·conv => whnf
    try simp only [tz] at *
    have hn3 : n + 1 = l.length := by omega
    have h1 : l.take (n + 1) = l := by rw [hn3]; exact List.take_length
    rw [h1] at hn2 ⊢
    rw [hn2, goodsS, if_pos hn2, List.drop_zero, List.take_of_length_le (by rw [List.length_map]; omega)]
end Go.Proofs.Ytkkfclpodgagdaa
set_option maxRecDepth 100000
set_option linter.all false
namespace Go.Proofs.Ytkkfclpodgagdaa
open Ab R
theorem value_order (b : Bool) : Ret Try.prog F_value_order [.bool b] (.int .i64 (if b then -1 else 1)) := by
 refine r_value_order rfl fun hw => ?_
 clear hw
 repeat' ((conv => whnf); (first | refine csp (fun h => ?_) (fun h => ?_) | (refine sda ?_ ?_; (focus (first | rfl | (simp; done)))) | refine sda ?_ ?_ | refine conk rfl ?_ | refine ldk rfl ?_ | refine mapk (fun x hx => ?_) | exact ⟨rfl, rfl⟩ | refine nilk (fun h => ?_) ?_ | intro hl))
 all_goals conv => whnf
 all_goals simp_all
theorem cmp_num1 (v w : GV) (h : v.k = 1) : Ret Try.prog F_value_Cmp_1 [eV v, eV w] (.tup [.int .i64 1, .int .i64 v.n, .str e0]) := by
 obtain ⟨k, n, s⟩ := v
 simp only at h
 subst h
 refine r_value_Cmp_1 rfl fun hw => ?_
 clear hw
 repeat' ((conv => whnf); (first | refine csp (fun h => ?_) (fun h => ?_) | (refine sda ?_ ?_; (focus (first | rfl | (simp; done)))) | refine sda ?_ ?_ | refine conk rfl ?_ | refine ldk rfl ?_ | refine mapk (fun x hx => ?_) | exact ⟨rfl, rfl⟩ | refine nilk (fun h => ?_) ?_ | intro hl))
 all_goals conv => whnf
def cmpI (k x : Int) : Int := if k < x then -1 else if k = x then 0 else 1
theorem cmp_num (v w : GV) (h : v.k = 1) (h2 : w.k = 1) : Ret Try.prog F_value_Cmp [eV v, eV w] (.int .i64 (cmpI v.n w.n)) := by
 unfold cmpI
 refine r_value_Cmp rfl fun hw => ?_
 clear hw
 repeat' ((conv => whnf); (first | refine csp (fun h => ?_) (fun h => ?_) | refine cllo (cmp_num1 v w h) (fun _ => ?_) | refine cllo (cmp_num1 w v h2) (fun _ => ?_) | refine cllo (value_order _) (fun _ => ?_) | (refine sda ?_ ?_; (focus (first | rfl | (simp; done)))) | refine sda ?_ ?_ | refine conk rfl ?_ | refine ldk rfl ?_ | refine mapk (fun x hx => ?_) | exact ⟨rfl, rfl⟩ | refine nilk (fun h => ?_) ?_ | intro hl))
 all_goals conv => whnf
 all_goals try simp only [tz] at *
 ·split <;> simp_all
 ·rw [if_neg (by omega), if_pos h]
theorem lookup_lines (how : Int) : Ret Try.prog F_lookup_lines [.int .i64 how] (.fn F_lookup_lines_1 [] [.elem [.int .i64 how]]) := by
 refine r_lookup_lines rfl fun hw => ?_
 clear hw
 repeat' ((conv => whnf); (first | refine csp (fun h => ?_) (fun h => ?_) | (refine sda ?_ ?_; (focus (first | rfl | (simp; done)))) | refine sda ?_ ?_ | refine conk rfl ?_ | refine ldk rfl ?_ | refine mapk (fun x hx => ?_) | exact ⟨rfl, rfl⟩ | refine nilk (fun h => ?_) ?_ | intro hl))
 all_goals conv => whnf
theorem law_one (v : GV) : Ret Try.prog F_octavolaw21_one [eV v] (eA ⟨1, 1, [v], false⟩) := by
 refine r_octavolaw21_one rfl fun hw => ?_
 clear hw
 repeat' ((conv => whnf); (first | refine csp (fun h => ?_) (fun h => ?_) | (refine sda ?_ ?_; (focus (first | rfl | (simp; done)))) | refine sda ?_ ?_ | refine conk rfl ?_ | refine ldk rfl ?_ | refine mapk (fun x hx => ?_) | exact ⟨rfl, rfl⟩ | refine nilk (fun h => ?_) ?_ | intro hl))
 all_goals conv => whnf
 all_goals rfl
theorem law_number (n : Int) : Ret Try.prog F_octavolaw21_number [.int .i64 n] (eA ⟨1, 1, [⟨1, n, e0⟩], false⟩) := by
 refine r_octavolaw21_number rfl fun hw => ?_
 clear hw
 repeat' ((conv => whnf); (first | refine csp (fun h => ?_) (fun h => ?_) | refine cllo (law_one ⟨1, n, e0⟩) (fun _ => ?_) | (refine sda ?_ ?_; (focus (first | rfl | (simp; done)))) | refine sda ?_ ?_ | refine conk rfl ?_ | refine ldk rfl ?_ | refine mapk (fun x hx => ?_) | exact ⟨rfl, rfl⟩ | refine nilk (fun h => ?_) ?_ | intro hl))
 all_goals conv => whnf
def scanS (how x : Int) : List GV → Int → Int → Int × Int
 | [], _, found => if found = 0 then (0, 6) else (found, 0)
 | k :: ks, i, found => if how = 0 ∧ cmpI k.n x = 0 then (i, 0) else if cmpI k.n x * how > 0 then (if found = 0 then (0, 6) else (found, 0)) else scanS how x ks (i + 1) (if how = 0 then found else i)
theorem match_nth (x g : Ar) (n how X : Int) (s : ByteArray) (hx : oneS x = ⟨1, X, s⟩) (hn : n = g.l.length) (hk : ∀ k ∈ g.l, k.k = 1) (hh : -1 ≤ how ∧ how ≤ 1) (hb : n ≤ 16777216) :
  Ret Try.prog F_lookup_match [eA x, .int .i64 n, .fn F_lookup_grid_nth [eA g] [], .int .i64 how] (.tup [.int .i64 (scanS how X g.l 1 0).1, .int .i64 (scanS how X g.l 1 0).2]) := by
 have h1 := maths_One x
 rw [hx] at h1
 refine r_lookup_match rfl fun hw => ?_
 clear hw
 repeat' ((conv => whnf); (first | refine csp (fun h => ?_) (fun h => ?_) | refine cllo (h1) (fun _ => ?_) | (refine sda ?_ ?_; (focus (first | rfl | (simp; done)))) | refine sda ?_ ?_ | refine conk rfl ?_ | refine ldk rfl ?_ | refine mapk (fun x hx => ?_) | exact ⟨rfl, rfl⟩ | refine nilk (fun h => ?_) ?_ | intro hl))
 conv => whnf
 refine .inl ⟨Int, [1, 2, 3, 10, 11, 12], [0, 1], fun i => [(1, .int .i64 n), (2, .fn F_lookup_grid_nth [eA g] []), (3, .int .i64 how), (10, .ptr 1 0), (11, .int .i64 (if how = 0 then 0 else i - 1)), (12, .int .i64 i)], fun _ => [.box true (cA x), .box true [.int .i64 1, .int .i64 X, .str s]], fun i => 1 ≤ i ∧ i ≤ n + 1 ∧ scanS how X (g.l.drop (i - 1).toNat) i (if how = 0 then 0 else i - 1) = scanS how X g.l 1 0, fun i => (n + 1 - i).toNat, rfl, ?_, fun i hi => ?_⟩
 ·conv => whnf
  refine ⟨1, ?_, rfl, by omega, by omega, ?_⟩
  ·split <;> rfl
  ·split <;> rfl
 ·obtain ⟨hi1, hi2, hi3⟩ := hi
  rcases Int.lt_or_le n i with hlt | hle
  ·refine csp_f (decide_eq_false (by omega)) ?_
   repeat' ((conv => whnf); (first | refine csp (fun h => ?_) (fun h => ?_) | (refine sda ?_ ?_; (focus (first | rfl | (simp; done)))) | refine sda ?_ ?_ | refine conk rfl ?_ | refine ldk rfl ?_ | refine mapk (fun x hx => ?_) | exact ⟨rfl, rfl⟩ | refine nilk (fun h => ?_) ?_ | intro hl))
   all_goals conv => whnf
   all_goals try simp only [tz] at *
   all_goals rw [List.drop_eq_nil_of_le (by omega), scanS] at hi3
   ·rw [if_pos h] at hi3
    rw [← hi3]
   ·rw [if_neg h] at hi3
    rw [← hi3]
  ·refine csp_t (decide_eq_true (by omega)) ?_
   have hil : (i - 1).toNat < g.l.length := by omega
   have hv : g.l[(i - 1).toNat]? = some g.l[(i - 1).toNat] := List.getElem?_eq_getElem hil
   have hvk := hk _ (List.getElem_mem hil)
   have hcons : g.l.drop (i - 1).toNat = g.l[(i - 1).toNat] :: g.l.drop ((i - 1).toNat + 1) := List.drop_eq_getElem_cons hil
   generalize g.l[(i - 1).toNat] = v at hv hvk hcons
   conv => whnf
   refine cllo (grid_nth g i v hi1 hv) (fun _ => ?_)
   refine csp_f (by rw [hvk]; rfl) ?_
   obtain ⟨c, hc, hcr⟩ : ∃ c, c = cmpI v.n X ∧ Ret Try.prog F_value_Cmp [eV v, eV ⟨1, X, s⟩] (.int .i64 c) := ⟨_, rfl, cmp_num v ⟨1, X, s⟩ hvk rfl⟩
   have hc3 : c = -1 ∨ c = 0 ∨ c = 1 := by
    rw [hc]
    unfold cmpI
    split
    ·exact .inl rfl
    ·split
     ·exact .inr (.inl rfl)
     ·exact .inr (.inr rfl)
   have hwr : IntKind.i64.wrap (c * how) = c * how := w64 (by rcases hc3 with h | h | h <;> rw [h] <;> omega)
   have hz : how = 0 → c * how = 0 := fun h => by rw [h, Int.mul_zero]
   rw [hcons, scanS, ← hc, show (i - 1).toNat + 1 = (i + 1 - 1).toNat by omega] at hi3
   conv => whnf
   refine cllo (hcr) (fun _ => ?_)
   clear hc hcr hx h1 hk
   repeat' ((conv => whnf); (first | refine csp (fun h => ?_) (fun h => ?_) | (refine sda ?_ ?_; (focus (first | rfl | (simp; done)))) | refine sda ?_ ?_ | refine conk rfl ?_ | refine ldk rfl ?_ | refine mapk (fun x hx => ?_) | exact ⟨rfl, rfl⟩ | refine nilk (fun h => ?_) ?_ | intro hl))
   all_goals conv => whnf
   all_goals try simp only [tz] at *
   all_goals try rw [hwr] at *
   ·rw [if_pos ⟨by assumption, h⟩] at hi3
    rw [← hi3]
   ·exfalso
    omega
   ·exfalso
    omega
   ·exact absurd (by assumption) h
   ·rw [if_neg (by omega), if_neg (by omega), if_pos h] at hi3
    refine ⟨i + 1, ?_, by trivial, ⟨by omega, by omega, ?_⟩, by omega⟩
    ·rw [if_pos h, if_pos h, w64 (by omega)]
    ·rw [← hi3, if_pos h, if_pos h]
   ·rw [if_neg (by omega), if_pos (by omega), if_pos h] at hi3
    rw [← hi3]
   ·rw [if_neg (by omega), if_pos (by omega), if_neg h] at hi3
    rw [← hi3]
   ·rw [if_neg (by omega), if_neg (by omega), if_neg h] at hi3
    refine ⟨i + 1, ?_, by trivial, ⟨by omega, by omega, ?_⟩, by omega⟩
    ·rw [if_neg h, w64 (by omega), show i + 1 - 1 = i by omega]
    ·rw [← hi3, if_neg h, show i + 1 - 1 = i by omega]
   ·exact absurd h (by assumption)
end Go.Proofs.Ytkkfclpodgagdaa
set_option maxRecDepth 100000
set_option linter.all false
namespace Go.Proofs.Ytkkfclpodgagdaa
open Ab R
theorem goods1 (a : Ar) (h : goodA a = true) : Ret Try.prog F_lookup_goods [.row false [cA a]] (.tup [.row false [cA a], .bool true]) := by
 have := lookup_goods [a] (by simp)
 simpa [goodsS, h] using this
theorem goods2 (a b : Ar) (h : goodA a = true) (h2 : goodA b = true) : Ret Try.prog F_lookup_goods [.row false [cA a, cA b]] (.tup [.row false [cA a, cA b], .bool true]) := by
 have := lookup_goods [a, b] (by simp)
 simpa [goodsS, h, h2] using this
theorem place2 (x g : Ar) (X : Int) (s : ByteArray) (hx : oneS x = ⟨1, X, s⟩) (hg : goodA g = true) (hl : g.rows = 1 ∨ g.cols = 1) (hk : ∀ k ∈ g.l, k.k = 1) :
  Ret Try.prog F_lookup_place [.row false [cA x, cA g]] (eV (let m := scanS 1 X g.l 1 0; if 0 < m.2 then badS m.2 else ofS (IntKind.i64.wrap (m.1 * 10000)) true)) := by
 obtain ⟨⟨g1, g2, g3, g4, g5⟩, _⟩ := goodA_out hg
 have hm := mulb g1 g3 g2 g4
 have hgl := grid_line g
 rw [decide_eq_true hl] at hgl
 have hmt := match_nth x g (g.l.map cV).length 1 X s hx (by rw [List.length_map]) hk (by omega) (by rw [List.length_map]; omega)
 refine r_lookup_place rfl fun hw => ?_
 clear hw
 repeat' ((conv => whnf); (first | refine csp (fun h => ?_) (fun h => ?_) | refine cllo (goods1 g hg) (fun _ => ?_) | refine cllo (hgl) (fun _ => ?_) | refine cllo (hmt) (fun _ => ?_) | refine cllo (value_Bad _) (fun _ => ?_) | refine cllo (lookup_whole _) (fun _ => ?_) | (refine sda ?_ ?_; (focus (first | rfl | (simp; done)))) | refine sda ?_ ?_ | refine conk rfl ?_ | refine ldk rfl ?_ | refine mapk (fun x hx => ?_) | exact ⟨rfl, rfl⟩ | refine nilk (fun h => ?_) ?_ | intro hl))
 all_goals conv => whnf
 all_goals try simp only [tz] at *
 ·show eV _ = eV _
  rw [if_pos h]
 ·show eV _ = eV _
  rw [if_neg (by omega)]
theorem place3 (x g w : Ar) (X : Int) (s : ByteArray) (hx : oneS x = ⟨1, X, s⟩) (hg : goodA g = true) (hl : g.rows = 1 ∨ g.cols = 1) (hk : ∀ k ∈ g.l, k.k = 1) (hw3 : ¬ (oneS w).k = 2) (hi : intsS (oneS w) = (0, 0)) :
  Ret Try.prog F_lookup_place [.row false [cA x, cA g, cA w]] (eV (let m := scanS 0 X g.l 1 0; if 0 < m.2 then badS m.2 else ofS (IntKind.i64.wrap (m.1 * 10000)) true)) := by
 obtain ⟨⟨g1, g2, g3, g4, g5⟩, _⟩ := goodA_out hg
 have hm := mulb g1 g3 g2 g4
 have hgl := grid_line g
 rw [decide_eq_true hl] at hgl
 have hmt := match_nth x g (g.l.map cV).length 0 X s hx (by rw [List.length_map]) hk (by omega) (by rw [List.length_map]; omega)
 have hit := lookup_ints w hw3
 rw [hi] at hit
 refine r_lookup_place rfl fun hw => ?_
 clear hw
 repeat' ((conv => whnf); (first | refine csp (fun h => ?_) (fun h => ?_) | refine cllo (goods1 g hg) (fun _ => ?_) | refine cllo (hgl) (fun _ => ?_) | refine cllo (hmt) (fun _ => ?_) | refine cllo (hit) (fun _ => ?_) | refine cllo (value_Bad _) (fun _ => ?_) | refine cllo (lookup_whole _) (fun _ => ?_) | (refine sda ?_ ?_; (focus (first | rfl | (simp; done)))) | refine sda ?_ ?_ | refine conk rfl ?_ | refine ldk rfl ?_ | refine mapk (fun x hx => ?_) | exact ⟨rfl, rfl⟩ | refine nilk (fun h => ?_) ?_ | intro hl))
 all_goals conv => whnf
 all_goals try simp only [tz] at *
 ·show eV _ = eV _
  rw [if_pos h]
 ·show eV _ = eV _
  rw [if_neg (by omega)]
theorem index2 (g w : Ar) (hg : goodA g = true) (hr : g.rows = 1) (hw2 : ¬ (oneS w).k = 2) (k : Int) (hi : intsS (oneS w) = (k, 0)) :
  Ret Try.prog F_lookup_index [.row false [cA g, cA w]] (eV (atS g 1 k)) := by
 have hit := lookup_ints w hw2
 rw [hi] at hit
 refine r_lookup_index rfl fun hw => ?_
 clear hw
 repeat' ((conv => whnf); (first | refine csp (fun h => ?_) (fun h => ?_) | refine cllo (goods1 g hg) (fun _ => ?_) | refine cllo (hit) (fun _ => ?_) | refine cllo (value_Bad _) (fun _ => ?_) | refine cllo (grid_at g 1 k hg) (fun _ => ?_) | (refine sda ?_ ?_; (focus (first | rfl | (simp; done)))) | refine sda ?_ ?_ | refine conk rfl ?_ | refine ldk rfl ?_ | refine mapk (fun x hx => ?_) | exact ⟨rfl, rfl⟩ | refine nilk (fun h => ?_) ?_ | intro hl))
 all_goals conv => whnf
 all_goals try simp only [tz] at *
 exact absurd hr h
theorem find_MATCH : Ret Try.prog F_lookup_find [.str ⟨#[77, 65, 84, 67, 72]⟩] (.tup [.fn F_lookup_place [] [], .int .i64 2, .int .i64 3]) := by
 refine r_lookup_find rfl fun hw => ?_
 clear hw
 repeat' ((conv => whnf); (first | refine csp (fun h => ?_) (fun h => ?_) | (refine sda ?_ ?_; (focus (first | rfl | (simp; done)))) | refine sda ?_ ?_ | refine conk rfl ?_ | refine ldk rfl ?_ | refine mapk (fun x hx => ?_) | exact ⟨rfl, rfl⟩ | refine nilk (fun h => ?_) ?_ | intro hl))
 all_goals conv => whnf
theorem find_INDEX : Ret Try.prog F_lookup_find [.str ⟨#[73, 78, 68, 69, 88]⟩] (.tup [.fn F_lookup_index [] [], .int .i64 2, .int .i64 3]) := by
 refine r_lookup_find rfl fun hw => ?_
 clear hw
 repeat' ((conv => whnf); (first | refine csp (fun h => ?_) (fun h => ?_) | (refine sda ?_ ?_; (focus (first | rfl | (simp; done)))) | refine sda ?_ ?_ | refine conk rfl ?_ | refine ldk rfl ?_ | refine mapk (fun x hx => ?_) | exact ⟨rfl, rfl⟩ | refine nilk (fun h => ?_) ?_ | intro hl))
 all_goals conv => whnf
theorem lookup_sized_2 : Ret Try.prog F_lookup_sized [.fn F_lookup_find_2 [] []] (.fn F_lookup_sized_1 [] [.elem [.fn F_lookup_find_2 [] []]]) := by
 refine r_lookup_sized rfl fun hw => ?_
 clear hw
 repeat' ((conv => whnf); (first | refine csp (fun h => ?_) (fun h => ?_) | (refine sda ?_ ?_; (focus (first | rfl | (simp; done)))) | refine sda ?_ ?_ | refine conk rfl ?_ | refine ldk rfl ?_ | refine mapk (fun x hx => ?_) | exact ⟨rfl, rfl⟩ | refine nilk (fun h => ?_) ?_ | intro hl))
 all_goals conv => whnf
theorem find_COLUMNS : Ret Try.prog F_lookup_find [.str ⟨#[67, 79, 76, 85, 77, 78, 83]⟩] (.tup [.fn F_lookup_sized_1 [] [.elem [.fn F_lookup_find_2 [] []]], .int .i64 1, .int .i64 1]) := by
 refine r_lookup_find rfl fun hw => ?_
 clear hw
 repeat' ((conv => whnf); (first | refine csp (fun h => ?_) (fun h => ?_) | refine cllo (lookup_sized_2) (fun _ => ?_) | (refine sda ?_ ?_; (focus (first | rfl | (simp; done)))) | refine sda ?_ ?_ | refine conk rfl ?_ | refine ldk rfl ?_ | refine mapk (fun x hx => ?_) | exact ⟨rfl, rfl⟩ | refine nilk (fun h => ?_) ?_ | intro hl))
 all_goals conv => whnf
theorem find_2 (g : Ar) : Ret Try.prog F_lookup_find_2 [eA g] (.int .i64 g.cols) := by
 refine r_lookup_find_2 rfl fun hw => ?_
 clear hw
 repeat' ((conv => whnf); (first | refine csp (fun h => ?_) (fun h => ?_) | (refine sda ?_ ?_; (focus (first | rfl | (simp; done)))) | refine sda ?_ ?_ | refine conk rfl ?_ | refine ldk rfl ?_ | refine mapk (fun x hx => ?_) | exact ⟨rfl, rfl⟩ | refine nilk (fun h => ?_) ?_ | intro hl))
 all_goals conv => whnf
theorem sized_2 (g : Ar) (hg : goodA g = true) : Ret Try.prog F_lookup_sized_1 [.row false [cA g], .elem [.fn F_lookup_find_2 [] []]] (eV (ofS (IntKind.i64.wrap (g.cols * 10000)) true)) := by
 refine r_lookup_sized_1 rfl fun hw => ?_
 clear hw
 repeat' ((conv => whnf); (first | refine csp (fun h => ?_) (fun h => ?_) | refine cllo (goods1 g hg) (fun _ => ?_) | refine cllo (value_Bad _) (fun _ => ?_) | refine cllo (find_2 g) (fun _ => ?_) | refine cllo (lookup_whole _) (fun _ => ?_) | (refine sda ?_ ?_; (focus (first | rfl | (simp; done)))) | refine sda ?_ ?_ | refine conk rfl ?_ | refine ldk rfl ?_ | refine mapk (fun x hx => ?_) | exact ⟨rfl, rfl⟩ | refine nilk (fun h => ?_) ?_ | intro hl))
 all_goals conv => whnf
end Go.Proofs.Ytkkfclpodgagdaa
set_option maxRecDepth 100000
set_option linter.all false
namespace Go.Proofs.Ytkkfclpodgagdaa
open Ab R
theorem ask0 (nm : ByteArray) (g : FuncId) (lo hi : Int) (args : List (List V)) (r : GV) (hf : Ret Try.prog F_lookup_find [.str nm] (.tup [.fn g [] [], .int .i64 lo, .int .i64 hi])) (hr : Ret Try.prog g [.row false args] (eV r)) (h1 : lo ≤ args.length) (h2 : args.length ≤ hi) :
  Ret Try.prog F_octavolaw21_ask [.str nm, .row false args] (eV r) := by
 have hc : Ret Try.prog F_lookup_Call [.str nm, .row false args] (.tup [eV r, .bool true]) := by
  refine r_lookup_Call rfl fun hw => ?_
  clear hw
  repeat' ((conv => whnf); (first | refine csp (fun h => ?_) (fun h => ?_) | refine cllo (hf) (fun _ => ?_) | refine cllo (hr) (fun _ => ?_) | refine cllo (value_Bad _) (fun _ => ?_) | (refine sda ?_ ?_; (focus (first | rfl | (simp; done)))) | refine sda ?_ ?_ | refine conk rfl ?_ | refine ldk rfl ?_ | refine mapk (fun x hx => ?_) | exact ⟨rfl, rfl⟩ | refine nilk (fun h => ?_) ?_ | intro hl))
  all_goals conv => whnf
  all_goals try simp only [tz] at *
  ·exfalso
   omega
  ·exfalso
   omega
 refine r_octavolaw21_ask rfl fun hw => ?_
 clear hw
 repeat' ((conv => whnf); (first | refine csp (fun h => ?_) (fun h => ?_) | refine cllo (hc) (fun _ => ?_) | (refine sda ?_ ?_; (focus (first | rfl | (simp; done)))) | refine sda ?_ ?_ | refine conk rfl ?_ | refine ldk rfl ?_ | refine mapk (fun x hx => ?_) | exact ⟨rfl, rfl⟩ | refine nilk (fun h => ?_) ?_ | intro hl))
 all_goals conv => whnf
theorem ask2 (nm : ByteArray) (g : FuncId) (lo hi : Int) (args : List (List V)) (r : GV) (hf : Ret Try.prog F_lookup_find [.str nm] (.tup [.fn g [] [.elem [.fn F_lookup_find_2 [] []]], .int .i64 lo, .int .i64 hi])) (hr : Ret Try.prog g [.row false args, .elem [.fn F_lookup_find_2 [] []]] (eV r)) (h1 : lo ≤ args.length) (h2 : args.length ≤ hi) :
  Ret Try.prog F_octavolaw21_ask [.str nm, .row false args] (eV r) := by
 have hc : Ret Try.prog F_lookup_Call [.str nm, .row false args] (.tup [eV r, .bool true]) := by
  refine r_lookup_Call rfl fun hw => ?_
  clear hw
  repeat' ((conv => whnf); (first | refine csp (fun h => ?_) (fun h => ?_) | refine cllo (hf) (fun _ => ?_) | refine cllo (hr) (fun _ => ?_) | refine cllo (value_Bad _) (fun _ => ?_) | (refine sda ?_ ?_; (focus (first | rfl | (simp; done)))) | refine sda ?_ ?_ | refine conk rfl ?_ | refine ldk rfl ?_ | refine mapk (fun x hx => ?_) | exact ⟨rfl, rfl⟩ | refine nilk (fun h => ?_) ?_ | intro hl))
  all_goals conv => whnf
  all_goals try simp only [tz] at *
  ·exfalso
   omega
  ·exfalso
   omega
 refine r_octavolaw21_ask rfl fun hw => ?_
 clear hw
 repeat' ((conv => whnf); (first | refine csp (fun h => ?_) (fun h => ?_) | refine cllo (hc) (fun _ => ?_) | (refine sda ?_ ?_; (focus (first | rfl | (simp; done)))) | refine sda ?_ ?_ | refine conk rfl ?_ | refine ldk rfl ?_ | refine mapk (fun x hx => ?_) | exact ⟨rfl, rfl⟩ | refine nilk (fun h => ?_) ?_ | intro hl))
 all_goals conv => whnf
def nA (n : Int) : Ar := ⟨1, 1, [⟨1, n, e0⟩], false⟩
theorem one_nA {n : Int} (h : goodN n = true) : oneS (nA n) = ⟨1, n, e0⟩ := by
 have : goodA (nA n) = true := goodA_yes ⟨by simp [nA], by simp [nA], by simp [nA], by simp [nA], rfl⟩ (by simp [nA, goodV, h])
 rw [oneS, if_pos ⟨rfl, this⟩]
 rfl
def kA : Ar := ⟨1, 3, [⟨1, 10000, e0⟩, ⟨1, 20000, e0⟩, ⟨1, 40000, e0⟩], true⟩
theorem good_kA : goodA kA = true := goodA_yes ⟨by decide, by decide, by decide, by decide, rfl⟩ (by simp [kA, goodV, goodN])
theorem kA_num : ∀ k ∈ kA.l, k.k = 1 := by simp [kA]
theorem live1 : Ret Try.prog F_octavolaw21_ask [.str ⟨#[77, 65, 84, 67, 72]⟩, .row false [cA (nA 30000), cA kA]] (eV ⟨1, 20000, e0⟩) :=
 ask0 _ _ 2 3 _ _ find_MATCH (place2 (nA 30000) kA 30000 e0 (one_nA (by decide)) good_kA (.inl rfl) kA_num) (by decide) (by decide)
theorem live2 : Ret Try.prog F_octavolaw21_ask [.str ⟨#[77, 65, 84, 67, 72]⟩, .row false [cA (nA 30000), cA kA, cA (nA 0)]] (eV ⟨4, 6, e0⟩) :=
 ask0 _ _ 2 3 _ _ find_MATCH (place3 (nA 30000) kA (nA 0) 30000 e0 (one_nA (by decide)) good_kA (.inl rfl) kA_num (by rw [one_nA (by decide)]; decide) (by rw [one_nA (by decide)]; decide)) (by decide) (by decide)
theorem live3 : Ret Try.prog F_octavolaw21_ask [.str ⟨#[73, 78, 68, 69, 88]⟩, .row false [cA kA, cA (nA 30000)]] (eV ⟨1, 40000, e0⟩) :=
 ask0 _ _ 2 3 _ _ find_INDEX (index2 kA (nA 30000) good_kA rfl (by rw [one_nA (by decide)]; decide) 3 (by rw [one_nA (by decide)]; decide)) (by decide) (by decide)
theorem live4 : Ret Try.prog F_octavolaw21_ask [.str ⟨#[67, 79, 76, 85, 77, 78, 83]⟩, .row false [cA kA]] (eV ⟨1, 30000, e0⟩) :=
 ask2 _ _ 1 1 _ _ find_COLUMNS (sized_2 kA good_kA) (by decide) (by decide)
theorem law_num (n : Int) : Ret Try.prog F_octavolaw21_number [.int .i64 n] (eA (nA n)) := law_number n
theorem lives : Ret Try.prog F_octavolaw21_lives [] (.bool true) := by
 refine r_octavolaw21_lives rfl fun hw => ?_
 clear hw
 repeat' ((conv => whnf); (first | refine csp (fun h => ?_) (fun h => ?_) | refine cllo (live1) (fun _ => ?_) | refine cllo (live2) (fun _ => ?_) | refine cllo (live3) (fun _ => ?_) | refine cllo (live4) (fun _ => ?_) | refine cllo (law_num _) (fun _ => ?_) | (refine sda ?_ ?_; (focus (first | rfl | (simp; done)))) | refine sda ?_ ?_ | refine conk rfl ?_ | refine ldk rfl ?_ | refine mapk (fun x hx => ?_) | exact ⟨rfl, rfl⟩ | refine nilk (fun h => ?_) ?_ | intro hl))
 all_goals conv => whnf
 all_goals rfl
end Go.Proofs.Ytkkfclpodgagdaa
set_option maxRecDepth 100000
set_option linter.all false
namespace Go.Proofs.Ytkkfclpodgagdaa
open Ab R
def cmpG (v w : GV) : Int := Vl.cmp v.k v.n v.s w.k w.n w.s
theorem cmpG_b (v w : GV) : cmpG v w = -1 ∨ cmpG v w = 0 ∨ cmpG v w = 1 := by
 unfold cmpG Vl.cmp Vl.cp
 repeat' split
 all_goals simp
theorem Cmp_g (v w : GV) (h : v.s.size ≤ 255) (h2 : w.s.size ≤ 255) : Ret Try.prog F_value_Cmp [eV v, eV w] (.int .i64 (cmpG v w)) :=
 c_value_Cmp v.k v.n v.s w.k w.n w.s _ (Vl.Cmp_is (by omega) (by omega)) (w64 (by show _ ≤ cmpG v w ∧ cmpG v w ≤ _; have := cmpG_b v w; omega))
def scanG (how : Int) (v : GV) : List GV → Int → Int → Int × Int
 | [], _, found => if found = 0 then (0, 6) else (found, 0)
 | k :: ks, i, found => if ¬ k.k = v.k then scanG how v ks (i + 1) found else if how = 0 ∧ cmpG k v = 0 then (i, 0) else if cmpG k v * how > 0 then (if found = 0 then (0, 6) else (found, 0)) else scanG how v ks (i + 1) (if how = 0 then found else i)
theorem scanG_in (how : Int) (v : GV) : ∀ (l : List GV) (i found : Int), 1 ≤ i → 0 ≤ found → found < i → ((scanG how v l i found).2 = 0 ∧ 1 ≤ (scanG how v l i found).1 ∧ (scanG how v l i found).1 < i + l.length) ∨ scanG how v l i found = (0, 6)
 | [], i, f, h1, h2, h3 => by
  unfold scanG
  split
  ·exact .inr rfl
  ·refine .inl ⟨rfl, ?_, ?_⟩
   ·show 1 ≤ f; omega
   ·show f < i + _; simp; omega
 | k :: l, i, f, h1, h2, h3 => by
  unfold scanG
  have ih := scanG_in how v l (i + 1)
  have e : ((k :: l).length : Int) = l.length + 1 := by simp
  rw [e]
  split
  ·rcases ih f (by omega) h2 (by omega) with ⟨a, b, c⟩ | c
   ·exact .inl ⟨a, b, by omega⟩
   ·exact .inr c
  ·split
   ·exact .inl ⟨rfl, h1, by show i < _; omega⟩
   ·split
    ·split
     ·exact .inr rfl
     ·exact .inl ⟨rfl, by show 1 ≤ f; omega, by show f < _; omega⟩
    ·have q : 0 ≤ (if how = 0 then f else i) ∧ (if how = 0 then f else i) < i + 1 := by split <;> omega
     rcases ih (if how = 0 then f else i) (by omega) q.1 q.2 with ⟨a, b, c⟩ | c
     ·exact .inl ⟨a, b, by omega⟩
     ·exact .inr c
def soughtG (how : Int) (v : GV) : GV := if v.k = 0 ∧ ¬ how = 0 then ⟨1, v.n, v.s⟩ else v
def matchG (how : Int) (v : GV) (l : List GV) : Int × Int := if v.k = 4 then (0, v.n) else scanG how (soughtG how v) l 1 0
theorem match_in (how : Int) (v : GV) (hv : goodV v = true) (l : List GV) : ((matchG how v l).2 = 0 ∧ 1 ≤ (matchG how v l).1 ∧ (matchG how v l).1 ≤ l.length) ∨ ((matchG how v l).1 = 0 ∧ 1 ≤ (matchG how v l).2 ∧ (matchG how v l).2 ≤ 8) := by
 unfold matchG
 split
 ·rename_i h
  have : 1 ≤ v.n ∧ v.n ≤ 8 := by simp [goodV, h] at hv; omega
  exact .inr ⟨rfl, this⟩
 ·rcases scanG_in how (soughtG how v) l 1 0 (by omega) (by omega) (by omega) with ⟨a, b, c⟩ | c
  ·exact .inl ⟨a, b, by omega⟩
  ·rw [c]; exact .inr ⟨rfl, by decide, by decide⟩
theorem match_g (x g : Ar) (n how : Int) (hn : n = g.l.length) (hg : g.l.all goodV = true) (hh : -1 ≤ how ∧ how ≤ 1) (hb : n ≤ 16777216) :
  Ret Try.prog F_lookup_match [eA x, .int .i64 n, .fn F_lookup_grid_nth [eA g] [], .int .i64 how] (.tup [.int .i64 (matchG how (oneS x) g.l).1, .int .i64 (matchG how (oneS x) g.l).2]) := by
 have h1 := maths_One x
 have hv0 := oneS_good x
 generalize oneS x = v at h1 hv0 ⊢
 have hvs := goodV_size hv0
 obtain ⟨u, hu⟩ : ∃ u, u = soughtG how v := ⟨_, rfl⟩
 have hus : u.s.size ≤ 255 := by rw [hu]; unfold soughtG; split <;> exact hvs
 by_cases h4 : v.k = 4
 ·refine r_lookup_match rfl fun hw => ?_
  clear hw
  repeat' ((conv => whnf); (first | refine csp_t ((decide_eq_true h4)) ?_ | refine pickk0 ?_ | refine csp (fun h => ?_) (fun h => ?_) | refine cllo (h1) (fun _ => ?_) | (refine sda ?_ ?_; (focus (first | rfl | exact of_decide_eq_true rfl | (simp; done)))) | refine sda ?_ ?_ | refine conk rfl ?_ | refine ldk rfl ?_ | refine mapk (fun x hx => ?_) | exact ⟨rfl, rfl⟩ | refine nilk (fun h => absurd h (of_decide_eq_false rfl)) ?_ | refine nilk (fun h => absurd h (List.cons_ne_nil _ _)) ?_ | refine nilk (fun h => ?_) ?_ | exact rfl | refine leftk1 rfl ?_ | refine bytk8 rfl ?_ | refine bytk rfl ?_ | exact leftk0 rfl | refine eqk rfl ?_ | refine fLm rfl ?_ | refine fLk (by assumption) ?_ | refine fVk ?_ | refine fLVk ?_ | refine fWk ?_ | intro hl))
  all_goals conv => whnf
  all_goals rw [matchG, if_pos h4]
 have hm : matchG how v g.l = scanG how u g.l 1 0 := by rw [matchG, if_neg h4, hu]
 rw [hm]
 have hd4 : decide (v.k = 4) = false := decide_eq_false h4
 have hc : (decide (v.k = 0) = true ∧ (!decide (how = 0)) = true) ∨ (decide (v.k = 0) = true ∧ (!decide (how = 0)) = false) ∨ (decide (v.k = 0) = false ∧ True) := by
  by_cases c : v.k = 0 <;> by_cases d : how = 0 <;> simp [c, d]
 clear hm
 rcases hc with ⟨c, d⟩ | ⟨c, d⟩ | ⟨c, d⟩
 all_goals
  refine r_lookup_match rfl fun hw => ?_
  clear hw
  repeat' ((conv => whnf); (first | refine csp_t ((by assumption)) ?_ | refine csp_f ((by assumption)) ?_ | refine pickk0 ?_ | refine csp (fun h => ?_) (fun h => ?_) | refine cllo (h1) (fun _ => ?_) | (refine sda ?_ ?_; (focus (first | rfl | exact of_decide_eq_true rfl | (simp; done)))) | refine sda ?_ ?_ | refine conk rfl ?_ | refine ldk rfl ?_ | refine mapk (fun x hx => ?_) | exact ⟨rfl, rfl⟩ | refine nilk (fun h => absurd h (of_decide_eq_false rfl)) ?_ | refine nilk (fun h => absurd h (List.cons_ne_nil _ _)) ?_ | refine nilk (fun h => ?_) ?_ | exact rfl | refine leftk1 rfl ?_ | refine bytk8 rfl ?_ | refine bytk rfl ?_ | exact leftk0 rfl | refine eqk rfl ?_ | refine fLm rfl ?_ | refine fLk (by assumption) ?_ | refine fVk ?_ | refine fLVk ?_ | refine fWk ?_ | intro hl))
  conv => whnf
  refine .inl ⟨Int × Int, [1, 2, 3, 10, 11, 12], [0, 1], fun i => [(1, .int .i64 n), (2, .fn F_lookup_grid_nth [eA g] []), (3, .int .i64 how), (10, .ptr 1 0), (11, .int .i64 i.2), (12, .int .i64 i.1)], fun _ => [.box true (cA x), .box true [.int .i64 u.k, .int .i64 u.n, .str u.s]], fun i => 1 ≤ i.1 ∧ i.1 ≤ n + 1 ∧ scanG how u (g.l.drop (i.1 - 1).toNat) i.1 i.2 = scanG how u g.l 1 0, fun i => (n + 1 - i.1).toNat, rfl, ?_, fun i hi => ?_⟩
  ·conv => whnf
   refine ⟨(1, 0), rfl, ?_, by show (1 : Int) ≤ 1; omega, by show (1 : Int) ≤ n + 1; omega, rfl⟩
   rw [hu]
   simp_all [soughtG]
  clear c d hu h1 hv0 h4 hd4 hvs
  obtain ⟨i, f⟩ := i
  obtain ⟨hi1, hi2, hi3⟩ := hi
  simp only at hi1 hi2 hi3
  rcases Int.lt_or_le n i with hlt | hle
  ·refine csp_f (decide_eq_false (by show ¬ i ≤ n; omega)) ?_
   repeat' ((conv => whnf); (first | refine csp (fun h => ?_) (fun h => ?_) | (refine sda ?_ ?_; (focus (first | rfl | (simp; done)))) | refine sda ?_ ?_ | refine conk rfl ?_ | refine ldk rfl ?_ | refine mapk (fun x hx => ?_) | exact ⟨rfl, rfl⟩ | refine nilk (fun h => ?_) ?_ | intro hl))
   all_goals conv => whnf
   all_goals try simp only [tz] at *
   all_goals rw [List.drop_eq_nil_of_le (by omega), scanG] at hi3
   ·rw [if_pos h] at hi3
    rw [← hi3]
   ·rw [if_neg h] at hi3
    rw [← hi3]
  ·refine csp_t (decide_eq_true (by show i ≤ n; omega)) ?_
   have hil : (i - 1).toNat < g.l.length := by omega
   have hv : g.l[(i - 1).toNat]? = some g.l[(i - 1).toNat] := List.getElem?_eq_getElem hil
   have hks := goodV_size (List.all_eq_true.1 hg _ (List.getElem_mem hil))
   have hcons : g.l.drop (i - 1).toNat = g.l[(i - 1).toNat] :: g.l.drop ((i - 1).toNat + 1) := List.drop_eq_getElem_cons hil
   generalize g.l[(i - 1).toNat] = k at hv hks hcons
   rw [hcons, scanG, show (i - 1).toNat + 1 = (i + 1 - 1).toNat by omega] at hi3
   obtain ⟨c, hc, hcr⟩ : ∃ c, c = cmpG k u ∧ Ret Try.prog F_value_Cmp [eV k, eV u] (.int .i64 c) := ⟨_, rfl, Cmp_g k u hks hus⟩
   have hc3 := cmpG_b k u
   rw [← hc] at hc3 hi3
   have hwr : IntKind.i64.wrap (c * how) = c * how := w64 (by rcases hc3 with h | h | h <;> rw [h] <;> omega)
   have hz : how = 0 → c * how = 0 := fun h => by rw [h, Int.mul_zero]
   have hgn := grid_nth g i k hi1 hv
   clear hc hcons hg hks hus hv
   repeat' ((conv => whnf); (first | refine csp (fun h => ?_) (fun h => ?_) | refine cllo (hgn) (fun _ => ?_) | refine cllo (hcr) (fun _ => ?_) | (refine sda ?_ ?_; (focus (first | rfl | (simp; done)))) | refine sda ?_ ?_ | refine conk rfl ?_ | refine ldk rfl ?_ | refine mapk (fun x hx => ?_) | exact ⟨rfl, rfl⟩ | refine nilk (fun h => ?_) ?_ | intro hl))
   all_goals conv => whnf
   all_goals try simp only [tz] at *
   all_goals try rw [hwr] at *
   all_goals clear hwr hgn hcr
   all_goals have hw1 := w64 (n := i + 1) (by omega)
   all_goals first
    | (exfalso; omega)
    | (refine ⟨(i + 1, f), by rw [hw1], by trivial, ⟨by show (1 : Int) ≤ i + 1; omega, by show i + 1 ≤ n + 1; omega, ?_⟩, by show (n + 1 - (i + 1)).toNat < (n + 1 - i).toNat; omega⟩; clear hw1 hz; (try have hq : ¬ 0 < c * how := by omega); rw [← hi3]; simp [*]; done)
    | (refine ⟨(i + 1, i), by rw [hw1], by trivial, ⟨by show (1 : Int) ≤ i + 1; omega, by show i + 1 ≤ n + 1; omega, ?_⟩, by show (n + 1 - (i + 1)).toNat < (n + 1 - i).toNat; omega⟩; clear hw1 hz; (try have hq : ¬ 0 < c * how := by omega); rw [← hi3]; simp [*]; done)
    | (clear hw1 hz; rw [← hi3]; simp [*]; done)
end Go.Proofs.Ytkkfclpodgagdaa
set_option maxRecDepth 100000
set_option linter.all false
namespace Go.Proofs.Ytkkfclpodgagdaa
open Ab R
theorem match_t (F : FuncId) (x g : Ar) (l : List GV) (n how : Int) (hn : n = l.length) (hg : l.all goodV = true) (hkey : ∀ (i : Int) k, 1 ≤ i → l[(i - 1).toNat]? = some k → Ret Try.prog F_lookup_table_1_1 [.int .i64 i, .elem [.fn F [eA g] []]] (eV k)) (hh : -1 ≤ how ∧ how ≤ 1) (hb : n ≤ 16777216) :
  Ret Try.prog F_lookup_match [eA x, .int .i64 n, .fn F_lookup_table_1_1 [] [.elem [.fn F [eA g] []]], .int .i64 how] (.tup [.int .i64 (matchG how (oneS x) l).1, .int .i64 (matchG how (oneS x) l).2]) := by
 have h1 := maths_One x
 have hv0 := oneS_good x
 generalize oneS x = v at h1 hv0 ⊢
 have hvs := goodV_size hv0
 obtain ⟨u, hu⟩ : ∃ u, u = soughtG how v := ⟨_, rfl⟩
 have hus : u.s.size ≤ 255 := by rw [hu]; unfold soughtG; split <;> exact hvs
 by_cases h4 : v.k = 4
 ·refine r_lookup_match rfl fun hw => ?_
  clear hw
  repeat' ((conv => whnf); (first | refine csp_t ((decide_eq_true h4)) ?_ | refine pickk0 ?_ | refine csp (fun h => ?_) (fun h => ?_) | refine cllo (h1) (fun _ => ?_) | (refine sda ?_ ?_; (focus (first | rfl | exact of_decide_eq_true rfl | (simp; done)))) | refine sda ?_ ?_ | refine conk rfl ?_ | refine ldk rfl ?_ | refine mapk (fun x hx => ?_) | exact ⟨rfl, rfl⟩ | refine nilk (fun h => absurd h (of_decide_eq_false rfl)) ?_ | refine nilk (fun h => absurd h (List.cons_ne_nil _ _)) ?_ | refine nilk (fun h => ?_) ?_ | exact rfl | refine leftk1 rfl ?_ | refine bytk8 rfl ?_ | refine bytk rfl ?_ | exact leftk0 rfl | refine eqk rfl ?_ | refine fLm rfl ?_ | refine fLk (by assumption) ?_ | refine fVk ?_ | refine fLVk ?_ | refine fWk ?_ | intro hl))
  all_goals conv => whnf
  all_goals rw [matchG, if_pos h4]
 have hm : matchG how v l = scanG how u l 1 0 := by rw [matchG, if_neg h4, hu]
 rw [hm]
 have hd4 : decide (v.k = 4) = false := decide_eq_false h4
 have hc : (decide (v.k = 0) = true ∧ (!decide (how = 0)) = true) ∨ (decide (v.k = 0) = true ∧ (!decide (how = 0)) = false) ∨ (decide (v.k = 0) = false ∧ True) := by
  by_cases c : v.k = 0 <;> by_cases d : how = 0 <;> simp [c, d]
 clear hm
 rcases hc with ⟨c, d⟩ | ⟨c, d⟩ | ⟨c, d⟩
 all_goals
  refine r_lookup_match rfl fun hw => ?_
  clear hw
  repeat' ((conv => whnf); (first | refine csp_t ((by assumption)) ?_ | refine csp_f ((by assumption)) ?_ | refine pickk0 ?_ | refine csp (fun h => ?_) (fun h => ?_) | refine cllo (h1) (fun _ => ?_) | (refine sda ?_ ?_; (focus (first | rfl | exact of_decide_eq_true rfl | (simp; done)))) | refine sda ?_ ?_ | refine conk rfl ?_ | refine ldk rfl ?_ | refine mapk (fun x hx => ?_) | exact ⟨rfl, rfl⟩ | refine nilk (fun h => absurd h (of_decide_eq_false rfl)) ?_ | refine nilk (fun h => absurd h (List.cons_ne_nil _ _)) ?_ | refine nilk (fun h => ?_) ?_ | exact rfl | refine leftk1 rfl ?_ | refine bytk8 rfl ?_ | refine bytk rfl ?_ | exact leftk0 rfl | refine eqk rfl ?_ | refine fLm rfl ?_ | refine fLk (by assumption) ?_ | refine fVk ?_ | refine fLVk ?_ | refine fWk ?_ | intro hl))
  conv => whnf
  refine .inl ⟨Int × Int, [1, 2, 3, 10, 11, 12], [0, 1], fun i => [(1, .int .i64 n), (2, .fn F_lookup_table_1_1 [] [.elem [.fn F [eA g] []]]), (3, .int .i64 how), (10, .ptr 1 0), (11, .int .i64 i.2), (12, .int .i64 i.1)], fun _ => [.box true (cA x), .box true [.int .i64 u.k, .int .i64 u.n, .str u.s]], fun i => 1 ≤ i.1 ∧ i.1 ≤ n + 1 ∧ scanG how u (l.drop (i.1 - 1).toNat) i.1 i.2 = scanG how u l 1 0, fun i => (n + 1 - i.1).toNat, rfl, ?_, fun i hi => ?_⟩
  ·conv => whnf
   refine ⟨(1, 0), rfl, ?_, by show (1 : Int) ≤ 1; omega, by show (1 : Int) ≤ n + 1; omega, rfl⟩
   rw [hu]
   simp_all [soughtG]
  clear c d hu h1 hv0 h4 hd4 hvs
  obtain ⟨i, f⟩ := i
  obtain ⟨hi1, hi2, hi3⟩ := hi
  simp only at hi1 hi2 hi3
  rcases Int.lt_or_le n i with hlt | hle
  ·refine csp_f (decide_eq_false (by show ¬ i ≤ n; omega)) ?_
   repeat' ((conv => whnf); (first | refine csp (fun h => ?_) (fun h => ?_) | (refine sda ?_ ?_; (focus (first | rfl | (simp; done)))) | refine sda ?_ ?_ | refine conk rfl ?_ | refine ldk rfl ?_ | refine mapk (fun x hx => ?_) | exact ⟨rfl, rfl⟩ | refine nilk (fun h => ?_) ?_ | intro hl))
   all_goals conv => whnf
   all_goals try simp only [tz] at *
   all_goals rw [List.drop_eq_nil_of_le (by omega), scanG] at hi3
   ·rw [if_pos h] at hi3
    rw [← hi3]
   ·rw [if_neg h] at hi3
    rw [← hi3]
  ·refine csp_t (decide_eq_true (by show i ≤ n; omega)) ?_
   have hil : (i - 1).toNat < l.length := by omega
   have hv : l[(i - 1).toNat]? = some l[(i - 1).toNat] := List.getElem?_eq_getElem hil
   have hks := goodV_size (List.all_eq_true.1 hg _ (List.getElem_mem hil))
   have hcons : l.drop (i - 1).toNat = l[(i - 1).toNat] :: l.drop ((i - 1).toNat + 1) := List.drop_eq_getElem_cons hil
   generalize l[(i - 1).toNat] = k at hv hks hcons
   rw [hcons, scanG, show (i - 1).toNat + 1 = (i + 1 - 1).toNat by omega] at hi3
   obtain ⟨c, hc, hcr⟩ : ∃ c, c = cmpG k u ∧ Ret Try.prog F_value_Cmp [eV k, eV u] (.int .i64 c) := ⟨_, rfl, Cmp_g k u hks hus⟩
   have hc3 := cmpG_b k u
   rw [← hc] at hc3 hi3
   have hwr : IntKind.i64.wrap (c * how) = c * how := w64 (by rcases hc3 with h | h | h <;> rw [h] <;> omega)
   have hz : how = 0 → c * how = 0 := fun h => by rw [h, Int.mul_zero]
   have hgn := hkey i k hi1 hv
   clear hc hcons hg hks hus hv hkey
   repeat' ((conv => whnf); (first | refine csp (fun h => ?_) (fun h => ?_) | refine cllo (hgn) (fun _ => ?_) | refine cllo (hcr) (fun _ => ?_) | (refine sda ?_ ?_; (focus (first | rfl | (simp; done)))) | refine sda ?_ ?_ | refine conk rfl ?_ | refine ldk rfl ?_ | refine mapk (fun x hx => ?_) | exact ⟨rfl, rfl⟩ | refine nilk (fun h => ?_) ?_ | intro hl))
   all_goals conv => whnf
   all_goals try simp only [tz] at *
   all_goals try rw [hwr] at *
   all_goals clear hwr hgn hcr
   all_goals have hw1 := w64 (n := i + 1) (by omega)
   all_goals first
    | (exfalso; omega)
    | (refine ⟨(i + 1, f), by rw [hw1], by trivial, ⟨by show (1 : Int) ≤ i + 1; omega, by show i + 1 ≤ n + 1; omega, ?_⟩, by show (n + 1 - (i + 1)).toNat < (n + 1 - i).toNat; omega⟩; clear hw1 hz; (try have hq : ¬ 0 < c * how := by omega); rw [← hi3]; simp [*]; done)
    | (refine ⟨(i + 1, i), by rw [hw1], by trivial, ⟨by show (1 : Int) ≤ i + 1; omega, by show i + 1 ≤ n + 1; omega, ?_⟩, by show (n + 1 - (i + 1)).toNat < (n + 1 - i).toNat; omega⟩; clear hw1 hz; (try have hq : ¬ 0 < c * how := by omega); rw [← hi3]; simp [*]; done)
    | (clear hw1 hz; rw [← hi3]; simp [*]; done)
end Go.Proofs.Ytkkfclpodgagdaa
set_option maxRecDepth 100000
set_option linter.all false
namespace Go.Proofs.Ytkkfclpodgagdaa
open Ab R
def AnsV (r : V) : Prop := ∃ v : GV, r = eV v ∧ goodV v = true
theorem cla {P : Program} {g : FuncId} {args : List V} {K : V → Prop} {A B C : Prop} (h : RetE P g args AnsV) (k : ∀ v, goodV v = true → K (eV v)) : A ∨ B ∨ C ∨ (∃ Q, RetE P g args Q ∧ ∀ r, Q r → wfV 8 r → K r) := cle h fun r ⟨v, e, hv⟩ _ => by subst e; exact k v hv
theorem ofS_good (n : Int) (ok : Bool) : goodV (ofS n ok) = true := by
 unfold ofS
 split
 ·rename_i h
  simp only [Bool.and_eq_true] at h
  simp [goodV, h.2]
 ·exact goodV_bad 5
theorem goods1n (a : Ar) (h : ¬ goodA a = true) : Ret Try.prog F_lookup_goods [.row false [cA a]] (.tup [.row false [], .bool false]) := by
 have := lookup_goods [a] (by simp)
 simpa [goodsS, h] using this
theorem goods2n (a b : Ar) (h : ¬ (goodA a = true ∧ goodA b = true)) : Ret Try.prog F_lookup_goods [.row false [cA a, cA b]] (.tup [.row false [], .bool false]) := by
 have := lookup_goods [a, b] (by simp)
 have e : (goodA a && goodA b) = false := by
  cases h1 : goodA a <;> cases h2 : goodA b <;> simp_all
 simpa [goodsS, e, h] using this
def intsG (v : GV) : Int × Int := if 0 < (tn v).2 then (0, (tn v).2) else if (wholeS (tn v).1).2 = true then ((wholeS (tn v).1).1, 0) else (0, 5)
theorem ints_g (a : Ar) : Ret Try.prog F_lookup_ints [eA a] (.tup [.int .i64 (intsG (oneS a)).1, .int .i64 (intsG (oneS a)).2]) := by
 refine r_lookup_ints rfl fun hw => ?_
 clear hw
 repeat' ((conv => whnf); (first | refine csp (fun h => ?_) (fun h => ?_) | refine cllo (maths_One _) (fun _ => ?_) | refine cllo (ToNum_g _ (oneS_good a)) (fun _ => ?_) | refine cllo (num_Whole _) (fun _ => ?_) | (refine sda ?_ ?_; (focus (first | rfl | (simp; done)))) | refine sda ?_ ?_ | refine conk rfl ?_ | refine ldk rfl ?_ | refine mapk (fun x hx => ?_) | exact ⟨rfl, rfl⟩ | refine nilk (fun h => ?_) ?_ | intro hl))
 all_goals conv => whnf
 all_goals try simp only [tz] at *
 ·rw [intsG, if_pos h]
 ·rw [intsG, if_neg (by omega), if_neg (by simp [h])]
 ·rw [intsG, if_neg (by omega), if_pos h]
theorem intsG_b (a : Ar) : -10000000 ≤ (intsG (oneS a)).1 ∧ (intsG (oneS a)).1 ≤ 10000000 := by
 unfold intsG
 split
 ·exact ⟨by simp, by simp⟩
 ·split
  ·rename_i h
   unfold wholeS at h ⊢
   split
   ·rename_i h2; exact tdivb h2.1
   ·rename_i h2; rw [if_neg h2] at h; cases h
  ·exact ⟨by simp, by simp⟩
theorem sized_x (F : FuncId) (a : Ar) (h : goodA a = true → ∃ n : Int, Ret Try.prog F [eA a] (.int .i64 n)) : RetE Try.prog F_lookup_sized_1 [.row false [cA a], .elem [.fn F [] []]] AnsV := by
 by_cases hg : goodA a = true
 ·obtain ⟨n, hn⟩ := h hg
  refine re_lookup_sized_1 rfl fun hw => ?_
  clear hw
  repeat' ((conv => whnf); (first | refine csp (fun h => ?_) (fun h => ?_) | refine cllo (goods1 a hg) (fun _ => ?_) | refine cllo (value_Bad _) (fun _ => ?_) | refine cllo (hn) (fun _ => ?_) | refine cllo (lookup_whole _) (fun _ => ?_) | (refine sda ?_ ?_; (focus (first | rfl | (simp; done)))) | refine sda ?_ ?_ | refine conk rfl ?_ | refine ldk rfl ?_ | refine mapk (fun x hx => ?_) | exact ⟨rfl, rfl⟩ | refine nilk (fun h => ?_) ?_ | intro hl))
  all_goals conv => whnf
  all_goals exact ⟨_, rfl, ofS_good _ _⟩
 ·refine re_lookup_sized_1 rfl fun hw => ?_
  clear hw
  repeat' ((conv => whnf); (first | refine csp (fun h => ?_) (fun h => ?_) | refine cllo (goods1n a hg) (fun _ => ?_) | refine cllo (value_Bad _) (fun _ => ?_) | (refine sda ?_ ?_; (focus (first | rfl | (simp; done)))) | refine sda ?_ ?_ | refine conk rfl ?_ | refine ldk rfl ?_ | refine mapk (fun x hx => ?_) | exact ⟨rfl, rfl⟩ | refine nilk (fun h => ?_) ?_ | intro hl))
  all_goals conv => whnf
  all_goals exact ⟨_, rfl, goodV_bad _⟩
theorem atS_good (a : Ar) (r c : Int) (hg : goodA a = true) : goodV (atS a r c) = true := by
 unfold atS
 split
 ·exact goodV_bad _
 ·have hl := (goodA_out hg).2
  cases q : a.l[((r - 1) * a.cols + c - 1).toNat]? with
  | none => rfl
  | some v => exact List.all_eq_true.1 hl v (List.mem_of_getElem? q)
theorem index_x (l : List Ar) (hl : 2 ≤ l.length ∧ l.length ≤ 3) : RetE Try.prog F_lookup_index [.row false (l.map cA)] AnsV := by
 match l, hl with
 | [a, b], _ =>
  by_cases hg : goodA a = true
  ·refine re_lookup_index rfl fun hw => ?_
   clear hw
   repeat' ((conv => whnf); (first | refine csp (fun h => ?_) (fun h => ?_) | refine cllo (goods1 a hg) (fun _ => ?_) | refine cllo (value_Bad _) (fun _ => ?_) | refine cllo (ints_g _) (fun _ => ?_) | refine cllo (grid_at a _ _ hg) (fun _ => ?_) | (refine sda ?_ ?_; (focus (first | rfl | (simp; done)))) | refine sda ?_ ?_ | refine conk rfl ?_ | refine ldk rfl ?_ | refine mapk (fun x hx => ?_) | exact ⟨rfl, rfl⟩ | refine nilk (fun h => ?_) ?_ | intro hl))
   all_goals conv => whnf
   all_goals first | exact ⟨_, rfl, goodV_bad _⟩ | exact ⟨_, rfl, atS_good _ _ _ hg⟩
  ·refine re_lookup_index rfl fun hw => ?_
   clear hw
   repeat' ((conv => whnf); (first | refine csp (fun h => ?_) (fun h => ?_) | refine cllo (goods1n a hg) (fun _ => ?_) | refine cllo (value_Bad _) (fun _ => ?_) | (refine sda ?_ ?_; (focus (first | rfl | (simp; done)))) | refine sda ?_ ?_ | refine conk rfl ?_ | refine ldk rfl ?_ | refine mapk (fun x hx => ?_) | exact ⟨rfl, rfl⟩ | refine nilk (fun h => ?_) ?_ | intro hl))
   all_goals conv => whnf
   all_goals exact ⟨_, rfl, goodV_bad _⟩
 | [a, b, c], _ =>
  by_cases hg : goodA a = true
  ·refine re_lookup_index rfl fun hw => ?_
   clear hw
   repeat' ((conv => whnf); (first | refine csp (fun h => ?_) (fun h => ?_) | refine cllo (goods1 a hg) (fun _ => ?_) | refine cllo (value_Bad _) (fun _ => ?_) | refine cllo (ints_g _) (fun _ => ?_) | refine cllo (grid_at a _ _ hg) (fun _ => ?_) | (refine sda ?_ ?_; (focus (first | rfl | (simp; done)))) | refine sda ?_ ?_ | refine conk rfl ?_ | refine ldk rfl ?_ | refine mapk (fun x hx => ?_) | exact ⟨rfl, rfl⟩ | refine nilk (fun h => ?_) ?_ | intro hl))
   all_goals conv => whnf
   all_goals first | exact ⟨_, rfl, goodV_bad _⟩ | exact ⟨_, rfl, atS_good _ _ _ hg⟩
  ·refine re_lookup_index rfl fun hw => ?_
   clear hw
   repeat' ((conv => whnf); (first | refine csp (fun h => ?_) (fun h => ?_) | refine cllo (goods1n a hg) (fun _ => ?_) | refine cllo (value_Bad _) (fun _ => ?_) | (refine sda ?_ ?_; (focus (first | rfl | (simp; done)))) | refine sda ?_ ?_ | refine conk rfl ?_ | refine ldk rfl ?_ | refine mapk (fun x hx => ?_) | exact ⟨rfl, rfl⟩ | refine nilk (fun h => ?_) ?_ | intro hl))
   all_goals conv => whnf
   all_goals exact ⟨_, rfl, goodV_bad _⟩
theorem choose_x (l : List Ar) (hl : 2 ≤ l.length) : RetE Try.prog F_lookup_choose [.row false (l.map cA)] AnsV := by
 match l, hl with
 | a :: b :: l, _ =>
  refine re_lookup_choose rfl fun hw => ?_
  clear hw
  repeat' ((conv => whnf); (first | refine csp (fun h => ?_) (fun h => ?_) | refine cllo (ints_g a) (fun _ => ?_) | refine cllo (value_Bad _) (fun _ => ?_) | refine cllo (maths_One _) (fun _ => ?_) | (refine sda ?_ ?_; (focus (first | rfl | (simp; done)))) | refine sda ?_ ?_ | refine conk rfl ?_ | refine ldk rfl ?_ | refine mapk (fun x hx => ?_) | exact ⟨rfl, rfl⟩ | refine nilk (fun h => ?_) ?_ | intro hl))
  all_goals conv => whnf
  all_goals first | exact ⟨_, rfl, goodV_bad _⟩ | exact ⟨_, rfl, oneS_good _⟩ | skip
  ·simp only [List.map_cons, List.length_cons]
   omega
  ·try simp only [tz] at *
   omega
theorem sqd {h : Int} (hb : -10000000 ≤ h ∧ h ≤ 10000000) (hd : decide (IntKind.i64.wrap (h * h) > 1) = false) : -1 ≤ h ∧ h ≤ 1 := by
 have h1 : h * h ≤ 100000000000000 := by
  have h2 := Int.le_natAbs (a := h * h)
  rw [Int.natAbs_mul] at h2
  have h3 : h.natAbs * h.natAbs ≤ 10000000 * 10000000 := Nat.mul_le_mul (by omega) (by omega)
  omega
 have h0 : 0 ≤ h * h := by
  rcases Int.le_total 0 h with q | q
  ·exact Int.mul_nonneg q q
  ·have := Int.mul_nonneg (show 0 ≤ -h by omega) (show 0 ≤ -h by omega)
   rwa [Int.neg_mul_neg] at this
 rw [w64 (by omega)] at hd
 have hd := of_decide_eq_false hd
 constructor
 ·rcases Int.lt_or_le h (-1) with q | q
  ·have := Int.mul_le_mul (show (2 : Int) ≤ -h by omega) (show (2 : Int) ≤ -h by omega) (by decide) (by omega)
   rw [Int.neg_mul_neg] at this
   omega
  ·exact q
 ·rcases Int.lt_or_le 1 h with q | q
  ·have := Int.mul_le_mul (show (2 : Int) ≤ h by omega) (show (2 : Int) ≤ h by omega) (by decide) (by omega)
   omega
  ·exact q
theorem gl_b {a : Ar} (hg : goodA a = true) : ((a.l.map cV).length : Int) ≤ 16777216 := by
 obtain ⟨⟨g1, g2, g3, g4, g5⟩, _⟩ := goodA_out hg
 have hm := mulb g1 g3 g2 g4
 rw [List.length_map]
 omega
theorem place_x (l : List Ar) (hl : 2 ≤ l.length ∧ l.length ≤ 3) : RetE Try.prog F_lookup_place [.row false (l.map cA)] AnsV := by
 match l, hl with
 | [x, a], _ =>
  by_cases hg : goodA a = true
  ·refine re_lookup_place rfl fun hw => ?_
   clear hw
   repeat' ((conv => whnf); (first | refine csp (fun h => ?_) (fun h => ?_) | refine cllo (goods1 a hg) (fun _ => ?_) | refine cllo (grid_line a) (fun _ => ?_) | refine cllo (value_Bad _) (fun _ => ?_) | refine cllo (match_g x a _ _ (by simp) (goodA_out hg).2 ⟨by decide, by decide⟩ (gl_b hg)) (fun _ => ?_) | refine cllo (lookup_whole _) (fun _ => ?_) | (refine sda ?_ ?_; (focus (first | rfl | (simp; done)))) | refine sda ?_ ?_ | refine conk rfl ?_ | refine ldk rfl ?_ | refine mapk (fun x hx => ?_) | exact ⟨rfl, rfl⟩ | refine nilk (fun h => ?_) ?_ | intro hl))
   all_goals conv => whnf
   all_goals first | exact ⟨_, rfl, goodV_bad _⟩ | exact ⟨_, rfl, ofS_good _ _⟩
  ·refine re_lookup_place rfl fun hw => ?_
   clear hw
   repeat' ((conv => whnf); (first | refine csp (fun h => ?_) (fun h => ?_) | refine cllo (goods1n a hg) (fun _ => ?_) | refine cllo (value_Bad _) (fun _ => ?_) | (refine sda ?_ ?_; (focus (first | rfl | (simp; done)))) | refine sda ?_ ?_ | refine conk rfl ?_ | refine ldk rfl ?_ | refine mapk (fun x hx => ?_) | exact ⟨rfl, rfl⟩ | refine nilk (fun h => ?_) ?_ | intro hl))
   all_goals conv => whnf
   all_goals exact ⟨_, rfl, goodV_bad _⟩
 | [x, a, c], _ =>
  by_cases hg : goodA a = true
  ·refine re_lookup_place rfl fun hw => ?_
   clear hw
   repeat' ((conv => whnf); (first | refine csp (fun h => ?_) (fun h => ?_) | refine cllo (goods1 a hg) (fun _ => ?_) | refine cllo (grid_line a) (fun _ => ?_) | refine cllo (ints_g c) (fun _ => ?_) | refine cllo (value_Bad _) (fun _ => ?_) | refine cllo (match_g x a _ _ (by simp) (goodA_out hg).2 (sqd (intsG_b c) (by assumption)) (gl_b hg)) (fun _ => ?_) | refine cllo (lookup_whole _) (fun _ => ?_) | (refine sda ?_ ?_; (focus (first | rfl | (simp; done)))) | refine sda ?_ ?_ | refine conk rfl ?_ | refine ldk rfl ?_ | refine mapk (fun x hx => ?_) | exact ⟨rfl, rfl⟩ | refine nilk (fun h => ?_) ?_ | intro hl))
   all_goals conv => whnf
   all_goals first | exact ⟨_, rfl, goodV_bad _⟩ | exact ⟨_, rfl, ofS_good _ _⟩
  ·refine re_lookup_place rfl fun hw => ?_
   clear hw
   repeat' ((conv => whnf); (first | refine csp (fun h => ?_) (fun h => ?_) | refine cllo (goods1n a hg) (fun _ => ?_) | refine cllo (value_Bad _) (fun _ => ?_) | (refine sda ?_ ?_; (focus (first | rfl | (simp; done)))) | refine sda ?_ ?_ | refine conk rfl ?_ | refine ldk rfl ?_ | refine mapk (fun x hx => ?_) | exact ⟨rfl, rfl⟩ | refine nilk (fun h => ?_) ?_ | intro hl))
   all_goals conv => whnf
   all_goals exact ⟨_, rfl, goodV_bad _⟩
theorem nth_x (b : Ar) (k : Int) (h : 1 ≤ k ∧ k ≤ b.l.length) (hg : goodA b = true) : ∃ v, Ret Try.prog F_lookup_grid_nth [eA b, .int .i64 k] (eV v) ∧ goodV v = true := by
 have hk : (k - 1).toNat < b.l.length := by omega
 exact ⟨b.l[(k - 1).toNat], grid_nth b k _ h.1 (List.getElem?_eq_getElem hk), List.all_eq_true.1 (goodA_out hg).2 _ (List.getElem_mem hk)⟩
theorem lines_x (how : Int) (hh : -1 ≤ how ∧ how ≤ 1) (l : List Ar) (hl : 3 ≤ l.length ∧ l.length ≤ 4) : RetE Try.prog F_lookup_lines_1 [.row false (l.map cA), .elem [.int .i64 how]] AnsV := by
 match l, hl with
 | [x, a, b], _ =>
  by_cases hg : goodA a = true ∧ goodA b = true
  ·have hm := match_g x a _ how (by simp) (goodA_out hg.1).2 hh (gl_b hg.1)
   have hi := match_in how (oneS x) (oneS_good x) a.l
   generalize matchG how (oneS x) a.l = m at hm hi
   obtain ⟨m1, m2⟩ := m
   by_cases hn : 1 ≤ m1 ∧ m1 ≤ b.l.length
   ·obtain ⟨v, hv, hvg⟩ := nth_x b m1 hn hg.2
    refine re_lookup_lines_1 rfl fun hw => ?_
    clear hw
    repeat' ((conv => whnf); (first | refine csp (fun h => ?_) (fun h => ?_) | refine cllo (goods2 a b hg.1 hg.2) (fun _ => ?_) | refine cllo (grid_line _) (fun _ => ?_) | refine cllo (value_Bad _) (fun _ => ?_) | refine cllo (hm) (fun _ => ?_) | refine cllo (hv) (fun _ => ?_) | refine cllo (maths_One _) (fun _ => ?_) | (refine sda ?_ ?_; (focus (first | rfl | (simp; done)))) | refine sda ?_ ?_ | refine conk rfl ?_ | refine ldk rfl ?_ | refine mapk (fun x hx => ?_) | exact ⟨rfl, rfl⟩ | refine nilk (fun h => ?_) ?_ | intro hl))
    all_goals conv => whnf
    all_goals first | exact ⟨_, rfl, goodV_bad _⟩ | exact ⟨_, rfl, hvg⟩ | exact ⟨_, rfl, oneS_good _⟩
   ·refine re_lookup_lines_1 rfl fun hw => ?_
    clear hw
    repeat' ((conv => whnf); (first | refine csp (fun h => ?_) (fun h => ?_) | refine cllo (goods2 a b hg.1 hg.2) (fun _ => ?_) | refine cllo (grid_line _) (fun _ => ?_) | refine cllo (value_Bad _) (fun _ => ?_) | refine cllo (hm) (fun _ => ?_) | refine cllo (maths_One _) (fun _ => ?_) | (refine sda ?_ ?_; (focus (first | rfl | (simp; done)))) | refine sda ?_ ?_ | refine conk rfl ?_ | refine ldk rfl ?_ | refine mapk (fun x hx => ?_) | exact ⟨rfl, rfl⟩ | refine nilk (fun h => ?_) ?_ | intro hl))
    all_goals conv => whnf
    all_goals first | exact ⟨_, rfl, goodV_bad _⟩ | exact ⟨_, rfl, oneS_good _⟩ | (exfalso; (try simp only [tz] at *); (try simp only at *); omega)
  ·refine re_lookup_lines_1 rfl fun hw => ?_
   clear hw
   repeat' ((conv => whnf); (first | refine csp (fun h => ?_) (fun h => ?_) | refine cllo (goods2n a b hg) (fun _ => ?_) | refine cllo (value_Bad _) (fun _ => ?_) | (refine sda ?_ ?_; (focus (first | rfl | (simp; done)))) | refine sda ?_ ?_ | refine conk rfl ?_ | refine ldk rfl ?_ | refine mapk (fun x hx => ?_) | exact ⟨rfl, rfl⟩ | refine nilk (fun h => ?_) ?_ | intro hl))
   all_goals conv => whnf
   all_goals exact ⟨_, rfl, goodV_bad _⟩
 | [x, a, b, c], _ =>
  by_cases hg : goodA a = true ∧ goodA b = true
  ·have hm := match_g x a _ how (by simp) (goodA_out hg.1).2 hh (gl_b hg.1)
   have hi := match_in how (oneS x) (oneS_good x) a.l
   generalize matchG how (oneS x) a.l = m at hm hi
   obtain ⟨m1, m2⟩ := m
   by_cases hn : 1 ≤ m1 ∧ m1 ≤ b.l.length
   ·obtain ⟨v, hv, hvg⟩ := nth_x b m1 hn hg.2
    refine re_lookup_lines_1 rfl fun hw => ?_
    clear hw
    repeat' ((conv => whnf); (first | refine csp (fun h => ?_) (fun h => ?_) | refine cllo (goods2 a b hg.1 hg.2) (fun _ => ?_) | refine cllo (grid_line _) (fun _ => ?_) | refine cllo (value_Bad _) (fun _ => ?_) | refine cllo (hm) (fun _ => ?_) | refine cllo (hv) (fun _ => ?_) | refine cllo (maths_One _) (fun _ => ?_) | (refine sda ?_ ?_; (focus (first | rfl | (simp; done)))) | refine sda ?_ ?_ | refine conk rfl ?_ | refine ldk rfl ?_ | refine mapk (fun x hx => ?_) | exact ⟨rfl, rfl⟩ | refine nilk (fun h => ?_) ?_ | intro hl))
    all_goals conv => whnf
    all_goals first | exact ⟨_, rfl, goodV_bad _⟩ | exact ⟨_, rfl, hvg⟩ | exact ⟨_, rfl, oneS_good _⟩
   ·refine re_lookup_lines_1 rfl fun hw => ?_
    clear hw
    repeat' ((conv => whnf); (first | refine csp (fun h => ?_) (fun h => ?_) | refine cllo (goods2 a b hg.1 hg.2) (fun _ => ?_) | refine cllo (grid_line _) (fun _ => ?_) | refine cllo (value_Bad _) (fun _ => ?_) | refine cllo (hm) (fun _ => ?_) | refine cllo (maths_One _) (fun _ => ?_) | (refine sda ?_ ?_; (focus (first | rfl | (simp; done)))) | refine sda ?_ ?_ | refine conk rfl ?_ | refine ldk rfl ?_ | refine mapk (fun x hx => ?_) | exact ⟨rfl, rfl⟩ | refine nilk (fun h => ?_) ?_ | intro hl))
    all_goals conv => whnf
    all_goals first | exact ⟨_, rfl, goodV_bad _⟩ | exact ⟨_, rfl, oneS_good _⟩ | (exfalso; (try simp only [tz] at *); (try simp only at *); omega)
  ·refine re_lookup_lines_1 rfl fun hw => ?_
   clear hw
   repeat' ((conv => whnf); (first | refine csp (fun h => ?_) (fun h => ?_) | refine cllo (goods2n a b hg) (fun _ => ?_) | refine cllo (value_Bad _) (fun _ => ?_) | (refine sda ?_ ?_; (focus (first | rfl | (simp; done)))) | refine sda ?_ ?_ | refine conk rfl ?_ | refine ldk rfl ?_ | refine mapk (fun x hx => ?_) | exact ⟨rfl, rfl⟩ | refine nilk (fun h => ?_) ?_ | intro hl))
   all_goals conv => whnf
   all_goals exact ⟨_, rfl, goodV_bad _⟩
theorem grid_turned (a : Ar) (c r : Int) (hg : goodA a = true) : Ret Try.prog F_lookup_grid_turned [eA a, .int .i64 c, .int .i64 r] (eV (atS a r c)) := by
 refine r_lookup_grid_turned rfl fun hw => ?_
 clear hw
 repeat' ((conv => whnf); (first | refine csp (fun h => ?_) (fun h => ?_) | refine cllo (grid_at a _ _ hg) (fun _ => ?_) | (refine sda ?_ ?_; (focus (first | rfl | (simp; done)))) | refine sda ?_ ?_ | refine conk rfl ?_ | refine ldk rfl ?_ | refine mapk (fun x hx => ?_) | exact ⟨rfl, rfl⟩ | refine nilk (fun h => ?_) ?_ | intro hl))
 all_goals conv => whnf
theorem table_1_1 (a : Ar) (i : Int) (hg : goodA a = true) : Ret Try.prog F_lookup_table_1_1 [.int .i64 i, .elem [.fn F_lookup_grid_at [eA a] []]] (eV (atS a i 1)) := by
 refine r_lookup_table_1_1 rfl fun hw => ?_
 clear hw
 repeat' ((conv => whnf); (first | refine csp (fun h => ?_) (fun h => ?_) | refine cllo (grid_at a _ _ hg) (fun _ => ?_) | (refine sda ?_ ?_; (focus (first | rfl | (simp; done)))) | refine sda ?_ ?_ | refine conk rfl ?_ | refine ldk rfl ?_ | refine mapk (fun x hx => ?_) | exact ⟨rfl, rfl⟩ | refine nilk (fun h => ?_) ?_ | intro hl))
 all_goals conv => whnf
theorem table_1_2 (a : Ar) (i : Int) (hg : goodA a = true) : Ret Try.prog F_lookup_table_1_1 [.int .i64 i, .elem [.fn F_lookup_grid_turned [eA a] []]] (eV (atS a 1 i)) := by
 refine r_lookup_table_1_1 rfl fun hw => ?_
 clear hw
 repeat' ((conv => whnf); (first | refine csp (fun h => ?_) (fun h => ?_) | refine cllo (grid_turned a _ _ hg) (fun _ => ?_) | (refine sda ?_ ?_; (focus (first | rfl | (simp; done)))) | refine sda ?_ ?_ | refine conk rfl ?_ | refine ldk rfl ?_ | refine mapk (fun x hx => ?_) | exact ⟨rfl, rfl⟩ | refine nilk (fun h => ?_) ?_ | intro hl))
 all_goals conv => whnf
def keysG (n : Int) (f : Int → GV) : List GV := (List.range n.toNat).map fun (i : Nat) => f ((i : Int) + 1)
theorem keysG_get {n : Int} {f : Int → GV} {i : Int} {k : GV} (h1 : 1 ≤ i) (h : (keysG n f)[(i - 1).toNat]? = some k) : k = f i := by
 simp only [keysG, List.getElem?_map, Option.map_eq_some_iff] at h
 obtain ⟨j, hj, rfl⟩ := h
 obtain ⟨hlt, e⟩ := List.getElem?_eq_some_iff.1 hj
 rw [List.getElem_range] at e
 rw [← e, show (((i - 1).toNat : Nat) : Int) + 1 = i by omega]
theorem keysG_len {n : Int} (hn : 1 ≤ n) (f : Int → GV) : n = (keysG n f).length := by
 simp only [keysG, List.length_map, List.length_range]
 omega
theorem keysG_good (n : Int) {f : Int → GV} (h : ∀ i, goodV (f i) = true) : (keysG n f).all goodV = true := by
 rw [List.all_eq_true]
 intro v hv
 simp only [keysG, List.mem_map] at hv
 obtain ⟨i, _, rfl⟩ := hv
 exact h _
theorem match_r (x g : Ar) (how : Int) (hg : goodA g = true) (hh : -1 ≤ how ∧ how ≤ 1) : ∃ m1 m2 : Int, Ret Try.prog F_lookup_match [eA x, .int .i64 g.rows, .fn F_lookup_table_1_1 [] [.elem [.fn F_lookup_grid_at [eA g] []]], .int .i64 how] (.tup [.int .i64 m1, .int .i64 m2]) := by
 obtain ⟨⟨g1, g2, g3, g4, g5⟩, _⟩ := goodA_out hg
 exact ⟨_, _, match_t F_lookup_grid_at x g (keysG g.rows fun i => atS g i 1) g.rows how (keysG_len g1 _) (keysG_good _ fun i => atS_good g i 1 hg) (fun i k hi hk => by rw [keysG_get (f := fun i => atS g i 1) hi hk]; exact table_1_1 g i hg) hh (by omega)⟩
theorem match_c (x g : Ar) (how : Int) (hg : goodA g = true) (hh : -1 ≤ how ∧ how ≤ 1) : ∃ m1 m2 : Int, Ret Try.prog F_lookup_match [eA x, .int .i64 g.cols, .fn F_lookup_table_1_1 [] [.elem [.fn F_lookup_grid_turned [eA g] []]], .int .i64 how] (.tup [.int .i64 m1, .int .i64 m2]) := by
 obtain ⟨⟨g1, g2, g3, g4, g5⟩, _⟩ := goodA_out hg
 exact ⟨_, _, match_t F_lookup_grid_turned x g (keysG g.cols fun i => atS g 1 i) g.cols how (keysG_len g2 _) (keysG_good _ fun i => atS_good g 1 i hg) (fun i k hi hk => by rw [keysG_get (f := fun i => atS g 1 i) hi hk]; exact table_1_2 g i hg) hh (by omega)⟩
theorem table_x (rows : Bool) (l : List Ar) (hl : 3 ≤ l.length ∧ l.length ≤ 4) : RetE Try.prog F_lookup_table_1 [.row false (l.map cA), .elem [.bool rows]] AnsV := by
 match l, hl with
 | [x, a, b], _ =>
  by_cases hg : goodA a = true
  ·obtain ⟨r1, r2, hr⟩ := match_r x a 1 hg (by decide)
   obtain ⟨c1, c2, hc⟩ := match_c x a 1 hg (by decide)
   cases rows <;>
   ·refine re_lookup_table_1 rfl fun hw => ?_
    clear hw
    repeat' ((conv => whnf); (first | refine csp (fun h => ?_) (fun h => ?_) | refine cllo (goods1 a hg) (fun _ => ?_) | refine cllo (ints_g b) (fun _ => ?_) | refine cllo (value_Bad _) (fun _ => ?_) | refine cllo (hr) (fun _ => ?_) | refine cllo (hc) (fun _ => ?_) | refine cllo (grid_at a _ _ hg) (fun _ => ?_) | refine cllo (grid_turned a _ _ hg) (fun _ => ?_) | (refine sda ?_ ?_; (focus (first | rfl | (simp; done)))) | refine sda ?_ ?_ | refine conk rfl ?_ | refine ldk rfl ?_ | refine mapk (fun x hx => ?_) | exact ⟨rfl, rfl⟩ | refine nilk (fun h => ?_) ?_ | intro hl))
    all_goals conv => whnf
    all_goals first | exact ⟨_, rfl, goodV_bad _⟩ | exact ⟨_, rfl, atS_good _ _ _ hg⟩
  ·refine re_lookup_table_1 rfl fun hw => ?_
   clear hw
   repeat' ((conv => whnf); (first | refine csp (fun h => ?_) (fun h => ?_) | refine cllo (goods1n a hg) (fun _ => ?_) | refine cllo (value_Bad _) (fun _ => ?_) | (refine sda ?_ ?_; (focus (first | rfl | (simp; done)))) | refine sda ?_ ?_ | refine conk rfl ?_ | refine ldk rfl ?_ | refine mapk (fun x hx => ?_) | exact ⟨rfl, rfl⟩ | refine nilk (fun h => ?_) ?_ | intro hl))
   all_goals conv => whnf
   all_goals exact ⟨_, rfl, goodV_bad _⟩
 | [x, a, b, c], _ =>
  by_cases hg : goodA a = true
  ·obtain ⟨r1, r2, hr⟩ := match_r x a 1 hg (by decide)
   obtain ⟨c1, c2, hc⟩ := match_c x a 1 hg (by decide)
   obtain ⟨r3, r4, hr0⟩ := match_r x a 0 hg (by decide)
   obtain ⟨c3, c4, hc0⟩ := match_c x a 0 hg (by decide)
   cases rows <;>
   ·refine re_lookup_table_1 rfl fun hw => ?_
    clear hw
    repeat' ((conv => whnf); (first | refine csp (fun h => ?_) (fun h => ?_) | refine cllo (goods1 a hg) (fun _ => ?_) | refine cllo (ints_g b) (fun _ => ?_) | refine cllo (ToBool_g _ (oneS_good c)) (fun _ => ?_) | refine cllo (maths_One c) (fun _ => ?_) | refine cllo (value_Bad _) (fun _ => ?_) | refine cllo (hr) (fun _ => ?_) | refine cllo (hc) (fun _ => ?_) | refine cllo (hr0) (fun _ => ?_) | refine cllo (hc0) (fun _ => ?_) | refine cllo (grid_at a _ _ hg) (fun _ => ?_) | refine cllo (grid_turned a _ _ hg) (fun _ => ?_) | (refine sda ?_ ?_; (focus (first | rfl | (simp; done)))) | refine sda ?_ ?_ | refine conk rfl ?_ | refine ldk rfl ?_ | refine mapk (fun x hx => ?_) | exact ⟨rfl, rfl⟩ | refine nilk (fun h => ?_) ?_ | intro hl))
    all_goals conv => whnf
    all_goals first | exact ⟨_, rfl, goodV_bad _⟩ | exact ⟨_, rfl, atS_good _ _ _ hg⟩
  ·refine re_lookup_table_1 rfl fun hw => ?_
   clear hw
   repeat' ((conv => whnf); (first | refine csp (fun h => ?_) (fun h => ?_) | refine cllo (goods1n a hg) (fun _ => ?_) | refine cllo (value_Bad _) (fun _ => ?_) | (refine sda ?_ ?_; (focus (first | rfl | (simp; done)))) | refine sda ?_ ?_ | refine conk rfl ?_ | refine ldk rfl ?_ | refine mapk (fun x hx => ?_) | exact ⟨rfl, rfl⟩ | refine nilk (fun h => ?_) ?_ | intro hl))
   all_goals conv => whnf
   all_goals exact ⟨_, rfl, goodV_bad _⟩
end Go.Proofs.Ytkkfclpodgagdaa
set_option maxRecDepth 100000
set_option linter.all false
namespace Go.Proofs.Ytkkfclpodgagdaa
open Ab R
open Classical in
noncomputable def seenS (l : List (GV × Int)) (v : GV) : List (GV × Int) := match l with
 | [] => [(v, IntKind.i64.wrap (0 + 1))]
 | x :: l => if x.1 = v then (x.1, IntKind.i64.wrap (x.2 + 1)) :: l else x :: seenS l v
def encM : List (GV × Int) → Nat → List (Nat × V × V)
 | [], _ => []
 | x :: l, i => (i, eV x.1, .int .i64 x.2) :: encM l (i + 1)
theorem encM_len : ∀ (l : List (GV × Int)) (i : Nat), (encM l i).length = l.length
 | [], _ => rfl
 | x :: l, i => by simp [encM, encM_len l]
theorem encM_app : ∀ (l m : List (GV × Int)) (i : Nat), encM (l ++ m) i = encM l i ++ encM m (i + l.length)
 | [], m, i => rfl
 | x :: l, m, i => by simp only [List.cons_append, encM, encM_app l m, List.length_cons]; rw [show i + 1 + l.length = i + (l.length + 1) by omega]
theorem eqV (v w : GV) : eqKey Try.prog 26 (eV v) (eV w) = some (decide (v.k = w.k) && (decide (v.n = w.n) && (decide (v.s = w.s) && true))) := by kernel_rfl
theorem updB_ne {n : Nat} {x : V} {y : Nat × V × V} {es : List (Nat × V × V)} (hne : y.1 ≠ n) : updB n x (y :: es) = y :: updB n x es := by
 have : Nat.beq y.1 n = false := by
  cases q : Nat.beq y.1 n with
  | false => rfl
  | true => exact absurd (Nat.eq_of_beq_eq_true q) hne
 simp [updB, this]
theorem updB_last {n : Nat} {x k z : V} : ∀ (es : List (Nat × V × V)), (∀ y ∈ es, y.1 ≠ n) → updB n x (es ++ [(n, k, z)]) = es ++ [(n, k, x)]
 | [], _ => by simp [updB]
 | y :: es, h => by
  rw [List.cons_append, updB_ne (h y List.mem_cons_self), updB_last es fun z hz => h z (List.mem_cons_of_mem _ hz)]
  rfl
theorem findM (v : GV) : ∀ (l : List (GV × Int)) (i : Nat),
  (∃ (m : Nat) (c : Int), l[m]? = some (v, c) ∧ encM (seenS l v) i = updB (i + m) (.int .i64 (IntKind.i64.wrap (c + 1))) (encM l i) ∧ ∀ (j : Nat) (K : Option (Nat × Nat × V × V) → Prop), K (some (j + m, (i + m, eV v, .int .i64 c))) → findK Try.prog 26 (eV v) (encM l i) j K) ∨
  (seenS l v = l ++ [(v, IntKind.i64.wrap (0 + 1))] ∧ ∀ (j : Nat) (K : Option (Nat × Nat × V × V) → Prop), K none → findK Try.prog 26 (eV v) (encM l i) j K)
 | [], i => .inr ⟨rfl, fun j K h => h⟩
 | x :: l, i => by
  obtain ⟨w, c⟩ := x
  by_cases q : w = v
  ·subst q
   refine .inl ⟨0, c, rfl, by simp [seenS, encM, updB], fun j K h => ?_⟩
   show (match eqKey Try.prog 26 (eV w) (eV w) with | some b => csplit b _ _ | none => False)
   rw [eqV]
   exact csp_t (by simp) h
  ·have hne : (decide (v.k = w.k) && (decide (v.n = w.n) && (decide (v.s = w.s) && true))) = false := by
    simp only [Bool.and_true, Bool.and_eq_false_iff, decide_eq_false_iff_not]
    rcases v with ⟨a, b, s⟩
    rcases w with ⟨a', b', s'⟩
    by_cases e1 : a = a'
    ·by_cases e2 : b = b'
     ·refine .inr (.inr fun e3 => q ?_)
      simp only at e3
      rw [e1, e2, e3]
     ·exact .inr (.inl e2)
    ·exact .inl e1
   have go : ∀ (j : Nat) (K : Option (Nat × Nat × V × V) → Prop), findK Try.prog 26 (eV v) (encM l (i + 1)) (j + 1) K → findK Try.prog 26 (eV v) (encM ((w, c) :: l) i) j K := by
    intro j K h
    show (match eqKey Try.prog 26 (eV v) (eV w) with | some b => csplit b _ _ | none => False)
    rw [eqV]
    exact csp_f hne h
   rcases findM v l (i + 1) with ⟨m, c', hm, he, hk⟩ | ⟨he, hk⟩
   ·refine .inl ⟨m + 1, c', by simpa using hm, ?_, fun j K h => go j K (hk (j + 1) K ?_)⟩
    ·rw [show i + 1 + m = i + (m + 1) by omega] at he
     rw [seenS, if_neg q]
     simp only [encM]
     rw [updB_ne (by show i ≠ i + (m + 1); omega), he]
    ·rw [show j + 1 + m = j + (m + 1) by omega, show i + 1 + m = i + (m + 1) by omega]
     exact h
   ·refine .inr ⟨?_, fun j K h => go j K (hk (j + 1) K h)⟩
    rw [seenS, if_neg q, he]
    rfl
theorem encM_ren (g : List Nat) : ∀ (l : List (GV × Int)) (i : Nat), ((encM l i).map fun x => (x.1, Ab.ren 8 g x.2.1, Ab.ren 8 g x.2.2)) = encM l i
 | [], _ => rfl
 | x :: l, i => by
  simp only [encM, List.map_cons, encM_ren g l (i + 1)]
  rfl
def upG (v : GV) : GV := ⟨v.k, v.n, Vl.up v.s⟩
noncomputable def unlS (l : List GV) : List (GV × Int) := l.foldl (fun acc v => if v.k = 0 ∨ v.k = 4 then acc else seenS acc (upG v)) []
theorem seenS_len (l : List (GV × Int)) (v : GV) : (seenS l v).length ≤ l.length + 1 := by
 induction l with
 | nil => simp [seenS]
 | cons x l ih => unfold seenS; split <;> simp <;> omega
theorem unlS_len (l : List GV) : (unlS l).length ≤ l.length := by
 have : ∀ (l : List GV) (acc : List (GV × Int)), (l.foldl (fun acc v => if v.k = 0 ∨ v.k = 4 then acc else seenS acc (upG v)) acc).length ≤ acc.length + l.length := by
  intro l
  induction l with
  | nil => intro acc; simp
  | cons x l ih =>
   intro acc
   have h := ih (if x.k = 0 ∨ x.k = 4 then acc else seenS acc (upG x))
   have h2 : (if x.k = 0 ∨ x.k = 4 then acc else seenS acc (upG x)).length ≤ acc.length + 1 := by
    split
    ·omega
    ·exact seenS_len acc (upG x)
   rw [List.foldl_cons, List.length_cons]
   omega
 have := this l []
 rw [List.length_nil, Nat.zero_add] at this
 exact this
theorem encM_born : ∀ (l : List (GV × Int)) (i : Nat) y, y ∈ encM l i → y.1 < i + l.length
 | [], _, y, h => by cases h
 | x :: l, i, y, h => by
  rcases List.mem_cons.1 h with rfl | h
  ·show i < _; simp
  ·have := encM_born l (i + 1) y h; simp; omega
theorem encM_mem (l : List (GV × Int)) (i m : Nat) {x : GV × Int} (h : l[m]? = some x) : (i + m, eV x.1, V.int .i64 x.2) ∈ encM l i := by
 induction l generalizing i m with
 | nil => simp at h
 | cons y l ih =>
  cases m with
  | zero => simp at h; subst h; exact List.mem_cons_self
  | succ m =>
   have := ih (i + 1) m (by simpa using h)
   rw [show i + 1 + m = i + (m + 1) by omega] at this
   exact List.mem_cons_of_mem _ this
theorem up_size (s : ByteArray) : (Vl.up s).size = s.size := by
 have : ∀ l : List Int, (strOfNums l).size = l.length := fun l => by simp [strOfNums, ByteArray.size]
 unfold Vl.up X.mapS
 rw [this, List.length_map, Go.Proofs.YtkkfclpodgagdaaW.PrintWords.bytesOf_length]
theorem unlike_r (a : Ar) (hg : goodA a = true) : Ret Try.prog F_lookup_unlike [eA a] (.int .i64 (unlS a.l).length) := by
 have hb := gl_b hg
 have hgl := (goodA_out hg).2
 rw [List.length_map] at hb
 have hup : ∀ s : ByteArray, s.size ≤ 255 → Ret Try.prog F_value_Upper [.str s] (.str (Vl.up s)) := fun s hs => c_value_Upper s _ (Vl.Upper_is (by omega)) (by rw [up_size]; omega)
 refine r_lookup_unlike rfl fun hw => ?_
 clear hw
 repeat' ((conv => whnf); (first | refine csp (fun h => ?_) (fun h => ?_) | (refine sda ?_ ?_; (focus (first | rfl | (simp; done)))) | refine sda ?_ ?_ | refine conk rfl ?_ | refine ldk rfl ?_ | refine mapk (fun x hx => ?_) | exact ⟨rfl, rfl⟩ | refine nilk (fun h => ?_) ?_ | intro hl))
 conv => whnf
 refine .inl ⟨Nat, [3, 9, 10, 11], [0, 1], fun i => [(3, .map 1), (9, .row false (a.l.map cV)), (10, .int .i64 (a.l.map cV).length), (11, .int .i64 i)], fun i => [.box true (cA a), .map (unlS (a.l.take i)).length (encM (unlS (a.l.take i)) 0)], fun i => i ≤ a.l.length, fun i => a.l.length - i, rfl, ?_, fun i hi => ?_⟩
 ·exact ⟨0, rfl, rfl, Nat.zero_le _⟩
 have hi : i ≤ a.l.length := hi
 have hub := unlS_len (a.l.take i)
 have hu0 : (a.l.take i).length ≤ i := by rw [List.length_take]; omega
 rcases Nat.lt_or_ge i a.l.length with hlt | hge
 ·have hx : a.l[i]? = some a.l[i] := List.getElem?_eq_getElem hlt
  have hxs := goodV_size (List.all_eq_true.1 hgl _ (List.getElem_mem hlt))
  generalize a.l[i] = x at hx hxs
  have hux := hup x.s hxs
  have hstep : unlS (a.l.take (i + 1)) = if x.k = 0 ∨ x.k = 4 then unlS (a.l.take i) else seenS (unlS (a.l.take i)) (upG x) := by
   unfold unlS
   rw [fold_take hx]
  have hw1 := w64 (n := (i : Int) + 1) (by omega)
  have he : (a.l.map cV)[((i : Nat) : Int).toNat]? = some (cV x) := by
   rw [Int.toNat_natCast, List.getElem?_map, hx]
   rfl
  have hlt' : decide ((i : Int) < ((a.l.map cV).length : Int)) = true := decide_eq_true (by rw [List.length_map]; omega)
  clear hup hgl
  by_cases hk : x.k = 0 ∨ x.k = 4
  ·rw [if_pos hk] at hstep
   repeat' ((conv => whnf); (first | refine csp_t ((hlt')) ?_ | refine pickk0 ?_ | refine csp (fun h => ?_) (fun h => ?_) | refine conk he ?_ | refine cllo (hux) (fun _ => ?_) | (refine sda ?_ ?_; (focus (first | rfl | exact of_decide_eq_true rfl | (simp; done)))) | refine sda ?_ ?_ | refine conk rfl ?_ | refine ldk rfl ?_ | refine mapk (fun x hx => ?_) | exact ⟨rfl, rfl⟩ | refine nilk (fun h => absurd h (of_decide_eq_false rfl)) ?_ | refine nilk (fun h => absurd h (List.cons_ne_nil _ _)) ?_ | refine nilk (fun h => ?_) ?_ | exact rfl | refine leftk1 rfl ?_ | refine bytk8 rfl ?_ | refine bytk rfl ?_ | exact leftk0 rfl | refine eqk rfl ?_ | refine fLm rfl ?_ | refine fLk (by assumption) ?_ | refine fVk ?_ | refine fLVk ?_ | refine fWk ?_ | intro hl))
   all_goals conv => whnf
   all_goals try simp only [tz] at *
   ·omega
   ·refine ⟨i + 1, by rw [hw1]; rfl, ?_, by omega, by omega⟩
    rw [hstep, encM_ren]
   ·refine ⟨i + 1, by rw [hw1]; rfl, ?_, by omega, by omega⟩
    rw [hstep, encM_ren]
   ·exact absurd hk (by omega)
  ·rw [if_neg hk] at hstep
   rcases findM (upG x) (unlS (a.l.take i)) 0 with ⟨m, c, hm, he2, hf⟩ | ⟨he2, hf⟩
   ·have hml := (List.getElem?_eq_some_iff.1 hm).1
    have hmem := encM_mem (unlS (a.l.take i)) 0 m hm
    have hln : (seenS (unlS (a.l.take i)) (upG x)).length = (unlS (a.l.take i)).length := by
     have := congrArg List.length he2
     rw [updB_length, encM_len, encM_len] at this
     exact this
    repeat' ((conv => whnf); (first | refine csp_t ((hlt')) ?_ | refine pickk0 ?_ | refine csp (fun h => ?_) (fun h => ?_) | refine conk he ?_ | refine cllo (hux) (fun _ => ?_) | refine hf _ _ ?_ | (refine sda ?_ ?_; (focus (first | rfl | exact of_decide_eq_true rfl | (simp; done)))) | refine sda ?_ ?_ | refine conk rfl ?_ | refine ldk rfl ?_ | refine mapk (fun x hx => ?_) | exact ⟨rfl, rfl⟩ | refine nilk (fun h => absurd h (of_decide_eq_false rfl)) ?_ | refine nilk (fun h => absurd h (List.cons_ne_nil _ _)) ?_ | refine nilk (fun h => ?_) ?_ | exact rfl | refine leftk1 rfl ?_ | refine bytk8 rfl ?_ | refine bytk rfl ?_ | exact leftk0 rfl | refine eqk rfl ?_ | refine fLm rfl ?_ | refine fLk (by assumption) ?_ | refine fVk ?_ | refine fLVk ?_ | refine fWk ?_ | intro hl))
    all_goals conv => whnf
    all_goals try simp only [tz] at *
    ·omega
    ·exact absurd (.inl h) hk
    ·exact absurd (.inr h) hk
    ·show 0 + m ≤ 9223372036854775807
     omega
    ·exact ⟨_, hmem, rfl⟩
    ·refine ⟨i + 1, by rw [hw1]; rfl, ?_, by omega, by omega⟩
     rw [hstep, hln]
     have e : updB ((0 + m : Nat) : Int).toNat (.int .i64 (IntKind.i64.wrap (c + 1))) (encM (unlS (a.l.take i)) 0) = encM (seenS (unlS (a.l.take i)) (upG x)) 0 := he2.symm
     rw [e, encM_ren]
   ·repeat' ((conv => whnf); (first | refine csp_t ((hlt')) ?_ | refine pickk0 ?_ | refine csp (fun h => ?_) (fun h => ?_) | refine conk he ?_ | refine cllo (hux) (fun _ => ?_) | refine hf _ _ ?_ | (refine sda ?_ ?_; (focus (first | rfl | exact of_decide_eq_true rfl | (simp; done)))) | refine sda ?_ ?_ | refine conk rfl ?_ | refine ldk rfl ?_ | refine mapk (fun x hx => ?_) | exact ⟨rfl, rfl⟩ | refine nilk (fun h => absurd h (of_decide_eq_false rfl)) ?_ | refine nilk (fun h => absurd h (List.cons_ne_nil _ _)) ?_ | refine nilk (fun h => ?_) ?_ | exact rfl | refine leftk1 rfl ?_ | refine bytk8 rfl ?_ | refine bytk rfl ?_ | exact leftk0 rfl | refine eqk rfl ?_ | refine fLm rfl ?_ | refine fLk (by assumption) ?_ | refine fVk ?_ | refine fLVk ?_ | refine fWk ?_ | intro hl))
    all_goals conv => whnf
    all_goals try simp only [tz] at *
    ·omega
    ·exact absurd (.inl h) hk
    ·exact absurd (.inr h) hk
    ·rw [encM_len]
     show _ + 1 ≤ 9223372036854775807
     omega
    ·show _ ≤ 9223372036854775807
     omega
    ·refine ⟨i + 1, by rw [hw1]; rfl, ?_, by omega, by omega⟩
     have e : updB (((unlS (a.l.take i)).length : Nat) : Int).toNat (.int .i64 (IntKind.i64.wrap (0 + 1))) (encM (unlS (a.l.take i)) 0 ++ [((unlS (a.l.take i)).length, eV (upG x), .int .i64 0)]) = encM (unlS (a.l.take i) ++ [(upG x, IntKind.i64.wrap (0 + 1))]) 0 := by
      rw [Int.toNat_natCast, updB_last _ (fun y hy => by have := encM_born _ 0 y hy; omega), encM_app, Nat.zero_add]
      rfl
     rw [hstep, he2]
     show [_, O.map _ (List.map _ (updB (((unlS (a.l.take i)).length : Nat) : Int).toNat (.int .i64 (IntKind.i64.wrap (0 + 1))) (encM (unlS (a.l.take i)) 0 ++ [((unlS (a.l.take i)).length, eV (upG x), .int .i64 0)])))] = _
     rw [e, encM_ren, List.length_append]
     rfl
 ·have e : a.l.take i = a.l := List.take_of_length_le hge
  repeat' ((conv => whnf); (first | refine csp (fun h => ?_) (fun h => ?_) | (refine sda ?_ ?_; (focus (first | rfl | (simp; done)))) | refine sda ?_ ?_ | refine conk rfl ?_ | refine ldk rfl ?_ | refine mapk (fun x hx => ?_) | exact ⟨rfl, rfl⟩ | refine nilk (fun h => ?_) ?_ | intro hl))
  all_goals conv => whnf
  all_goals try simp only [tz] at *
  all_goals first | (exfalso; omega) | (rw [e, encM_len])
end Go.Proofs.Ytkkfclpodgagdaa
set_option maxRecDepth 100000
set_option linter.all false
namespace Go.Proofs.Ytkkfclpodgagdaa
open Ab R
theorem find_1r (g : Ar) : Ret Try.prog F_lookup_find_1 [eA g] (.int .i64 g.rows) := by
 refine r_lookup_find_1 rfl fun hw => ?_
 clear hw
 repeat' ((conv => whnf); (first | refine csp (fun h => ?_) (fun h => ?_) | (refine sda ?_ ?_; (focus (first | rfl | (simp; done)))) | refine sda ?_ ?_ | refine conk rfl ?_ | refine ldk rfl ?_ | refine mapk (fun x hx => ?_) | exact ⟨rfl, rfl⟩ | refine nilk (fun h => ?_) ?_ | intro hl))
 all_goals conv => whnf
theorem lookup_sized_g (F : FuncId) : Ret Try.prog F_lookup_sized [.fn F [] []] (.fn F_lookup_sized_1 [] [.elem [.fn F [] []]]) := by
 refine r_lookup_sized rfl fun hw => ?_
 clear hw
 repeat' ((conv => whnf); (first | refine csp (fun h => ?_) (fun h => ?_) | (refine sda ?_ ?_; (focus (first | rfl | (simp; done)))) | refine sda ?_ ?_ | refine conk rfl ?_ | refine ldk rfl ?_ | refine mapk (fun x hx => ?_) | exact ⟨rfl, rfl⟩ | refine nilk (fun h => ?_) ?_ | intro hl))
 all_goals conv => whnf
theorem lookup_table_g (b : Bool) : Ret Try.prog F_lookup_table [.bool b] (.fn F_lookup_table_1 [] [.elem [.bool b]]) := by
 refine r_lookup_table rfl fun hw => ?_
 clear hw
 repeat' ((conv => whnf); (first | refine csp (fun h => ?_) (fun h => ?_) | (refine sda ?_ ?_; (focus (first | rfl | (simp; done)))) | refine sda ?_ ?_ | refine conk rfl ?_ | refine ldk rfl ?_ | refine mapk (fun x hx => ?_) | exact ⟨rfl, rfl⟩ | refine nilk (fun h => ?_) ?_ | intro hl))
 all_goals conv => whnf
inductive FndL : V → Prop
 | no : FndL (.tup [.nilFn, .int .i64 0, .int .i64 0])
 | sized (F : FuncId) (h : F = F_lookup_find_1 ∨ F = F_lookup_find_2 ∨ F = F_lookup_unlike) : FndL (.tup [.fn F_lookup_sized_1 [] [.elem [.fn F [] []]], .int .i64 1, .int .i64 1])
 | index : FndL (.tup [.fn F_lookup_index [] [], .int .i64 2, .int .i64 3])
 | choose : FndL (.tup [.fn F_lookup_choose [] [], .int .i64 2, .int .i64 1073741824])
 | place : FndL (.tup [.fn F_lookup_place [] [], .int .i64 2, .int .i64 3])
 | look : FndL (.tup [.fn F_lookup_lines_1 [] [.elem [.int .i64 1]], .int .i64 3, .int .i64 3])
 | xlook : FndL (.tup [.fn F_lookup_lines_1 [] [.elem [.int .i64 0]], .int .i64 3, .int .i64 4])
 | table (b : Bool) : FndL (.tup [.fn F_lookup_table_1 [] [.elem [.bool b]], .int .i64 3, .int .i64 4])
theorem find_x (nm : ByteArray) : RetE Try.prog F_lookup_find [.str nm] FndL := by
 refine re_lookup_find rfl fun hw => ?_
 clear hw
 repeat' ((conv => whnf); (first | refine csp (fun h => ?_) (fun h => ?_) | refine cllo (lookup_sized_g _) (fun _ => ?_) | refine cllo (lookup_lines _) (fun _ => ?_) | refine cllo (lookup_table_g _) (fun _ => ?_) | (refine sda ?_ ?_; (focus (first | rfl | (simp; done)))) | refine sda ?_ ?_ | refine conk rfl ?_ | refine ldk rfl ?_ | refine mapk (fun x hx => ?_) | exact ⟨rfl, rfl⟩ | refine nilk (fun h => ?_) ?_ | intro hl))
 all_goals conv => whnf
 all_goals first | exact .no | exact .sized _ (.inl rfl) | exact .sized _ (.inr (.inl rfl)) | exact .sized _ (.inr (.inr rfl)) | exact .index | exact .choose | exact .place | exact .look | exact .xlook | exact .table _
theorem sized_xx (F : FuncId) (h : F = F_lookup_find_1 ∨ F = F_lookup_find_2 ∨ F = F_lookup_unlike) (l : List Ar) (hl : 1 ≤ l.length ∧ l.length ≤ 1) : RetE Try.prog F_lookup_sized_1 [.row false (l.map cA), .elem [.fn F [] []]] AnsV := by
 match l, hl with
 | [a], _ =>
  refine sized_x F a fun hg => ?_
  rcases h with rfl | rfl | rfl
  ·exact ⟨_, find_1r a⟩
  ·exact ⟨_, find_2 a⟩
  ·exact ⟨_, unlike_r a hg⟩
structure AnsC where
 v : GV
 ok : Bool
def goodC (x : AnsC) : Prop := (x.ok = true → goodV x.v = true) ∧ (x.ok = false → x.v = ⟨0, 0, e0⟩)
theorem lnb {l : List Ar} {n : Int} (h : decide (((l.map cA).length : Int) < n) = false) : n ≤ l.length := by
 have := of_decide_eq_false h
 rw [List.length_map] at this
 omega
theorem lnb2 {l : List Ar} {n : Int} (h : decide (((l.map cA).length : Int) > n) = false) : l.length ≤ n := by
 have := of_decide_eq_false h
 rw [List.length_map] at this
 omega
theorem lnc (m n : Nat) {l : List Ar} (h : decide (((l.map cA).length : Int) < (m : Int)) = false) (k : decide (((l.map cA).length : Int) > (n : Int)) = false) : m ≤ l.length ∧ l.length ≤ n := by
 have := lnb h
 have := lnb2 k
 omega
theorem choose_xx (l : List Ar) (hl : 2 ≤ l.length ∧ l.length ≤ 1073741824) : RetE Try.prog F_lookup_choose [.row false (l.map cA)] AnsV := choose_x l hl.1
theorem lines_xx (how : Int) (hh : -1 ≤ how ∧ how ≤ 1) (l : List Ar) (hl : 3 ≤ l.length ∧ l.length ≤ 3) : RetE Try.prog F_lookup_lines_1 [.row false (l.map cA), .elem [.int .i64 how]] AnsV := lines_x how hh l ⟨hl.1, Nat.le_trans hl.2 (by decide)⟩
theorem Call_x (nm : ByteArray) (l : List Ar) : RetE Try.prog F_lookup_Call [.str nm, .row false (l.map cA)] fun r => ∃ x : AnsC, r = .tup [eV x.v, .bool x.ok] ∧ goodC x := by
 have hbad : ∃ x : AnsC, V.tup [eV (badS 2), .bool true] = V.tup [eV x.v, .bool x.ok] ∧ goodC x := ⟨⟨badS 2, true⟩, rfl, fun _ => goodV_bad 2, fun h => by cases h⟩
 have hno : ∃ x : AnsC, V.tup [eV ⟨0, 0, e0⟩, .bool false] = V.tup [eV x.v, .bool x.ok] ∧ goodC x := ⟨⟨⟨0, 0, e0⟩, false⟩, rfl, fun h => (by cases h), fun _ => rfl⟩
 have hyes : ∀ v, goodV v = true → ∃ x : AnsC, V.tup [eV v, .bool true] = V.tup [eV x.v, .bool x.ok] ∧ goodC x := fun v hv => ⟨⟨v, true⟩, rfl, fun _ => hv, fun h => by cases h⟩
 refine re_lookup_Call rfl fun hw => ?_
 clear hw
 conv => whnf
 refine cle (find_x nm) (fun r q hw => ?_)
 clear hw
 cases q with
 | no =>
  repeat' ((conv => whnf); (first | refine csp (fun h => ?_) (fun h => ?_) | (refine sda ?_ ?_; (focus (first | rfl | (simp; done)))) | refine sda ?_ ?_ | refine conk rfl ?_ | refine ldk rfl ?_ | refine mapk (fun x hx => ?_) | exact ⟨rfl, rfl⟩ | refine nilk (fun h => ?_) ?_ | intro hl))
  all_goals conv => whnf
  all_goals exact hno
 | sized F hF =>
  repeat' ((conv => whnf); (first | refine csp (fun h => ?_) (fun h => ?_) | refine cllo (value_Bad _) (fun _ => ?_) | refine cla (sized_xx F hF l (lnc 1 1 (by assumption) (by assumption))) (fun v hv => ?_) | (refine sda ?_ ?_; (focus (first | rfl | (simp; done)))) | refine sda ?_ ?_ | refine conk rfl ?_ | refine ldk rfl ?_ | refine mapk (fun x hx => ?_) | exact ⟨rfl, rfl⟩ | refine nilk (fun h => ?_) ?_ | intro hl))
  all_goals conv => whnf
  all_goals first | exact hbad | exact hyes _ (by assumption)
 | index =>
  repeat' ((conv => whnf); (first | refine csp (fun h => ?_) (fun h => ?_) | refine cllo (value_Bad _) (fun _ => ?_) | refine cla (index_x l (lnc 2 3 (by assumption) (by assumption))) (fun v hv => ?_) | (refine sda ?_ ?_; (focus (first | rfl | (simp; done)))) | refine sda ?_ ?_ | refine conk rfl ?_ | refine ldk rfl ?_ | refine mapk (fun x hx => ?_) | exact ⟨rfl, rfl⟩ | refine nilk (fun h => ?_) ?_ | intro hl))
  all_goals conv => whnf
  all_goals first | exact hbad | exact hyes _ (by assumption)
 | choose =>
  repeat' ((conv => whnf); (first | refine csp (fun h => ?_) (fun h => ?_) | refine cllo (value_Bad _) (fun _ => ?_) | refine cla (choose_xx l (lnc 2 1073741824 (by assumption) (by assumption))) (fun v hv => ?_) | (refine sda ?_ ?_; (focus (first | rfl | (simp; done)))) | refine sda ?_ ?_ | refine conk rfl ?_ | refine ldk rfl ?_ | refine mapk (fun x hx => ?_) | exact ⟨rfl, rfl⟩ | refine nilk (fun h => ?_) ?_ | intro hl))
  all_goals conv => whnf
  all_goals first | exact hbad | exact hyes _ (by assumption)
 | place =>
  repeat' ((conv => whnf); (first | refine csp (fun h => ?_) (fun h => ?_) | refine cllo (value_Bad _) (fun _ => ?_) | refine cla (place_x l (lnc 2 3 (by assumption) (by assumption))) (fun v hv => ?_) | (refine sda ?_ ?_; (focus (first | rfl | (simp; done)))) | refine sda ?_ ?_ | refine conk rfl ?_ | refine ldk rfl ?_ | refine mapk (fun x hx => ?_) | exact ⟨rfl, rfl⟩ | refine nilk (fun h => ?_) ?_ | intro hl))
  all_goals conv => whnf
  all_goals first | exact hbad | exact hyes _ (by assumption)
 | look =>
  repeat' ((conv => whnf); (first | refine csp (fun h => ?_) (fun h => ?_) | refine cllo (value_Bad _) (fun _ => ?_) | refine cla (lines_xx 1 ⟨by decide, by decide⟩ l (lnc 3 3 (by assumption) (by assumption))) (fun v hv => ?_) | (refine sda ?_ ?_; (focus (first | rfl | (simp; done)))) | refine sda ?_ ?_ | refine conk rfl ?_ | refine ldk rfl ?_ | refine mapk (fun x hx => ?_) | exact ⟨rfl, rfl⟩ | refine nilk (fun h => ?_) ?_ | intro hl))
  all_goals conv => whnf
  all_goals first | exact hbad | exact hyes _ (by assumption)
 | xlook =>
  repeat' ((conv => whnf); (first | refine csp (fun h => ?_) (fun h => ?_) | refine cllo (value_Bad _) (fun _ => ?_) | refine cla (lines_x 0 ⟨by decide, by decide⟩ l (lnc 3 4 (by assumption) (by assumption))) (fun v hv => ?_) | (refine sda ?_ ?_; (focus (first | rfl | (simp; done)))) | refine sda ?_ ?_ | refine conk rfl ?_ | refine ldk rfl ?_ | refine mapk (fun x hx => ?_) | exact ⟨rfl, rfl⟩ | refine nilk (fun h => ?_) ?_ | intro hl))
  all_goals conv => whnf
  all_goals first | exact hbad | exact hyes _ (by assumption)
 | table b =>
  repeat' ((conv => whnf); (first | refine csp (fun h => ?_) (fun h => ?_) | refine cllo (value_Bad _) (fun _ => ?_) | refine cla (table_x b l (lnc 3 4 (by assumption) (by assumption))) (fun v hv => ?_) | (refine sda ?_ ?_; (focus (first | rfl | (simp; done)))) | refine sda ?_ ?_ | refine conk rfl ?_ | refine ldk rfl ?_ | refine mapk (fun x hx => ?_) | exact ⟨rfl, rfl⟩ | refine nilk (fun h => ?_) ?_ | intro hl))
  all_goals conv => whnf
  all_goals first | exact hbad | exact hyes _ (by assumption)
theorem lookupFaults_ret (nm : ByteArray) (l : List Ar) (h1 : nm.size ≤ 140737488351232) (h2 : l.length * 48 ≤ 140737488351232 ∧ l.length ≤ 9223372036854775807 ∧ ∀ x ∈ l, (IntKind.i64.wrap x.rows = x.rows) ∧ ((IntKind.i64.wrap x.cols = x.cols) ∧ ((x.l.length * 32 ≤ 140737488351232 ∧ x.l.length ≤ 9223372036854775807 ∧ ∀ y ∈ x.l, ((IntKind.i64.wrap y.k = y.k) ∧ ((IntKind.i64.wrap y.n = y.n) ∧ (y.s.size ≤ 140737488351232)))) ∧ True))) : Ret Try.prog F_octavolaw21_LookupFaults [.str nm, .row false (l.map cA)] (.bool true) := by
 refine r_octavolaw21_LookupFaults rfl fun hw => ?_
 clear hw
 repeat' ((conv => whnf); (first | refine csp (fun h => ?_) (fun h => ?_) | refine cllo (law_light l) (fun _ => ?_) | refine cllo (lives) (fun _ => ?_) | (refine sda ?_ ?_; (focus (first | rfl | (simp; done)))) | refine sda ?_ ?_ | refine conk rfl ?_ | refine ldk rfl ?_ | refine mapk (fun x hx => ?_) | exact ⟨rfl, rfl⟩ | refine nilk (fun h => ?_) ?_ | intro hl))
 all_goals conv => whnf
 refine cle (Call_x nm l) (fun r q hw => ?_)
 clear hw
 obtain ⟨⟨v, ok⟩, rfl, hg1, hg2⟩ := q
 cases ok with
 | true =>
  have hv := hg1 rfl
  have hgd := ref06_Good v
  rw [hv] at hgd
  repeat' ((conv => whnf); (first | refine csp (fun h => ?_) (fun h => ?_) | refine cllo (hgd) (fun _ => ?_) | refine cllo (lives) (fun _ => ?_) | (refine sda ?_ ?_; (focus (first | rfl | (simp; done)))) | refine sda ?_ ?_ | refine conk rfl ?_ | refine ldk rfl ?_ | refine mapk (fun x hx => ?_) | exact ⟨rfl, rfl⟩ | refine nilk (fun h => ?_) ?_ | intro hl))
  all_goals conv => whnf
 | false =>
  obtain rfl := hg2 rfl
  repeat' ((conv => whnf); (first | refine csp (fun h => ?_) (fun h => ?_) | refine cllo (lives) (fun _ => ?_) | (refine sda ?_ ?_; (focus (first | rfl | (simp; done)))) | refine sda ?_ ?_ | refine conk rfl ?_ | refine ldk rfl ?_ | refine mapk (fun x hx => ?_) | exact ⟨rfl, rfl⟩ | refine nilk (fun h => ?_) ?_ | intro hl))
  all_goals conv => whnf
end Go.Proofs.Ytkkfclpodgagdaa
