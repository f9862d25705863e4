/- What the functions answer, and the law. -/
import Derived.Test.YtllceoncpgebpaaGreatDoorR
import Derived.Test.YtllceoncpgebpaaGreatDoorB
import Derived.Test.YtllceoncpgebpaaGreatDoorPl
import Derived.Test.YtllceoncpgebpaaGreatDoorPx8
set_option maxRecDepth 100000
set_option linter.all false
namespace Go.Proofs.YtllceoncpgebpaaGreatDoor
open Ab R
theorem tz : (∀ (p : Prop) [Decidable p], (decide p = true) = p) ∧ (∀ (p : Prop) [Decidable p], (decide p = false) = ¬p) ∧ (∀ b : Bool, ((!b) = true) = (b = false)) ∧ (∀ b : Bool, ((!b) = false) = (b = true)) ∧
  (∀ (α β : Type) (f : α → β) (l : List α), (l.map f).length = l.length) ∧ (∀ a b : Int, (¬a < b) = (b ≤ a)) ∧ (∀ a b : Int, (¬a ≤ b) = (b < a)) ∧ (∀ (p : Prop) [Decidable p], (¬¬p) = p) ∧ (∀ (α : Type) [LT α] (a b : α), (a > b) = (b < a)) ∧ ∀ (α : Type) [LE α] (a b : α), (a ≥ b) = (b ≤ a) :=
 ⟨fun p _ => by simp, fun p _ => by simp, fun b => by simp, fun b => by simp, fun α β f l => by simp, fun a b => by simp, fun a b => by simp, fun p _ => by simp, fun α _ a b => rfl, fun α _ a b => rfl⟩
theorem cllo {P : Program} {g : FuncId} {args : List V} {r : V} {K : V → Prop} {B : Prop} (h : Ret P g args r) (k : wfV 8 r → K r) : (∃ r, Ret P g args r ∧ (wfV 8 r → K r)) ∨ B := .inl ⟨r, h, k⟩
theorem fLm {α : Type} {s : List O} {l : List α} {f : α → List Nat} {K : List O → Prop} (h : l.flatMap f = []) (k : K s) : fL fO (Ab.mark s (l.flatMap f)) K := by rw [fL_eq fO_eq, h]; exact k
theorem fVk {n : Nat} {v : V} {K : V → Prop} (h : K v) : fV n v K := by rw [fV_eq]; exact h
theorem fLVk {n : Nat} {l : List V} {K : List V → Prop} (h : K l) : fL (fV n) l K := by rw [fL_eq (fV_eq n)]; exact h
theorem fWk {n : Nat} {v : V} {K : V → Prop} (h : K v) : fW n v K := by rw [fW_eq]; exact h
theorem pickk : ∀ {cs : List Nat} {n : Nat} {K : Nat → Prop}, K n → pickN cs n K
 | [], _, _, h => h
 | c :: cs, n, K, h => by
  simp only [pickN]
  cases q : Nat.beq c n
  ·exact pickk h
  ·rw [Nat.eq_of_beq_eq_true q]; exact h
theorem pickk0 {cs : List Nat} {c n : Nat} {K : Nat → Prop} (h : K n) : pickN (c :: cs) n K := pickk h
structure Sv (s : List O) : Prop where
theorem fLk {s : List O} {K : List O → Prop} (_ : Sv s) (h : K s) : fL fO s K := by rw [fL_eq fO_eq]; exact h
theorem nilk {p A B : Prop} (a : p → A) (b : B) : (p → A) ∧ B := ⟨a, b⟩
theorem sda {p q : Prop} (h : p) (k : q) : Sd p ∧ q := ⟨⟨h⟩, k⟩
theorem conk {els : List (List V)} {i : Nat} {c : List V} {K : List V → Prop} (h : els[i]? = some c) (k : K c) : ∀ cs, els[i]? = some cs → K cs := fun cs hcs => by
 rw [h] at hcs
 rw [← Option.some.inj hcs]
 exact k
theorem ldk {o : Option V} {w : V} {K : V → Prop} (h : o = some w) (k : K w) : ∀ v, o = some v → K v := fun v hv => by
 rw [h] at hv
 rw [← Option.some.inj hv]
 exact k
theorem mapk {α : Type} {l : List α} {f : α → List V} {i : Nat} {K : List V → Prop} (h : ∀ x, l[i]? = some x → K (f x)) : ∀ cs, (l.map f)[i]? = some cs → K cs := fun cs hcs => by
 rw [List.getElem?_map] at hcs
 cases hx : l[i]? with
 | none => rw [hx] at hcs; cases hcs
 | some x => rw [hx] at hcs; obtain rfl := Option.some.inj hcs; exact h x hx
theorem eqk {α : Type} {o : Option α} {w : α} {K : α → Prop} (h : o = some w) (k : K w) : ∀ v, o = some v → K v := fun v hv => by
 rw [h] at hv
 rw [← Option.some.inj hv]
 exact k
theorem leftk1 {es : List (Nat × V × V)} {seen : List Nat} {a : Nat × V × V} {K : Nat × V × V → Prop} (h : leftM es seen = [a]) (k : K a) : ∀ y, y ∈ leftM es seen → K y := fun y hy => by
 rw [h, List.mem_singleton] at hy
 rw [hy]
 exact k
theorem leftk0 {es : List (Nat × V × V)} {seen : List Nat} {K : Nat × V × V → Prop} (h : leftM es seen = []) : ∀ y, y ∈ leftM es seen → K y := fun y hy => by
 rw [h] at hy
 cases hy
theorem bytk {els : List (List V)} {l : List Int} {K : List Int → Prop} (h : bytesV els = some l) (k : K l) : (∀ l, bytesV els = some l → K l) ∧ Sd ((bytesV els).isSome = true) := by
 refine ⟨fun l' hl => ?_, ⟨by rw [h]; rfl⟩⟩
 rw [h] at hl
 rw [← Option.some.inj hl]
 exact k
theorem bytk8 {els : List (List V)} {c : List UInt8} {K : List Int → Prop} (h : els = c.map fun c => [V.int .u8 c.toNat]) (k : K (c.map fun c => (c.toNat : Int))) : (∀ l, bytesV els = some l → K l) ∧ Sd ((bytesV els).isSome = true) :=
 bytk (h ▸ bytesV_map (fun c : UInt8 => (c.toNat : Int)) c) k
structure GV where
 k : Int
 n : Int
 s : ByteArray
abbrev cV (v : GV) : List V := [.int .i64 v.k, .int .i64 v.n, .str v.s]
abbrev eV (v : GV) : V := .agg (cV v)
structure Ar where
 rows : Int
 cols : Int
 l : List GV
 many : Bool
abbrev cA (a : Ar) : List V := [.int .i64 a.rows, .int .i64 a.cols, .row false (a.l.map cV), .bool a.many]
abbrev eA (a : Ar) : V := .agg (cA a)
abbrev e0 : ByteArray := ⟨#[]⟩
def badS (n : Int) : GV := ⟨4, if n < 1 ∨ n > 8 then 2 else n, e0⟩
theorem value_Bad (n : Int) : Ret Tryz.prog F_value_Bad [.int .i64 n] (eV (badS n)) := by
 refine r_value_Bad rfl fun _ => ?_
 ((conv => whnf); refine csp (fun h => ?_) (fun h => ?_))
 ·conv => whnf
  simp_all [badS]
 ·((conv => whnf); refine csp (fun h => ?_) (fun h => ?_))
  ·conv => whnf
   simp_all [badS]
  ·conv => whnf
   simp_all [badS]
   omega
def goodN (n : Int) : Bool := decide (-100000000000 ≤ n ∧ n ≤ 100000000000)
theorem num_Good (n : Int) : Ret Tryz.prog F_num_Good [.int .i64 n] (.bool (goodN n)) := by
 refine r_num_Good rfl fun _ => ?_
 ((conv => whnf); refine csp (fun h => ?_) (fun h => ?_))
 ·conv => whnf
  simp_all [goodN]
 ·conv => whnf
  simp_all [goodN]
  try omega
def ofS (n : Int) (ok : Bool) : GV := if ok && goodN n then ⟨1, n, e0⟩ else badS 5
theorem value_Of (n : Int) (ok : Bool) : Ret Tryz.prog F_value_Of [.int .i64 n, .bool ok] (eV (ofS n ok)) := by
 refine r_value_Of rfl fun _ => ?_
 ((conv => whnf); refine csp (fun h => ?_) (fun h => ?_))
 ·refine cllo (num_Good _) (fun _ => ?_)
  ((conv => whnf); refine csp (fun h => ?_) (fun h => ?_))
  ·conv => whnf
   simp_all [ofS]
  ·refine cllo (value_Bad _) (fun _ => ?_)
   conv => whnf
   simp_all [ofS]
 ·refine cllo (value_Bad _) (fun _ => ?_)
  conv => whnf
  simp_all [ofS]
def ownS (v : GV) : V :=
 if v.k = 0 then .iface 88 (.agg []) else if v.k = 1 then .iface 89 (.int .i64 v.n) else if v.k = 2 then .iface 91 (.str v.s)
 else if v.k = 3 then .iface 90 (.bool (!decide (v.n = 0))) else if v.k = 4 then .iface 94 (.int .i64 v.n) else .nilI
theorem value_own (v : GV) : Ret Tryz.prog F_value_own [eV v] (ownS v) := by
 refine r_value_own rfl fun _ => ?_
 ((conv => whnf); refine csp (fun h => ?_) (fun h => ?_))
 ·conv => whnf
  simp_all [ownS]
 ((conv => whnf); refine csp (fun h => ?_) (fun h => ?_))
 ·conv => whnf
  simp_all [ownS]
 ((conv => whnf); refine csp (fun h => ?_) (fun h => ?_))
 ·conv => whnf
  simp_all [ownS]
 ((conv => whnf); refine csp (fun h => ?_) (fun h => ?_))
 ·conv => whnf
  simp_all [ownS]
 ((conv => whnf); refine csp (fun h => ?_) (fun h => ?_))
 ·conv => whnf
  simp_all [ownS]
 conv => whnf
 simp_all [ownS]
def goodV (v : GV) : Bool :=
 if v.k = 0 then decide (v.n = 0 ∧ v.s = e0) else if v.k = 1 then goodN v.n && decide (v.s = e0) else if v.k = 2 then decide (v.n = 0 ∧ v.s.size ≤ 255)
 else if v.k = 3 then decide ((v.n = 0 ∨ v.n = 1) ∧ v.s = e0) else if v.k = 4 then decide (1 ≤ v.n ∧ v.n ≤ 8 ∧ v.s = e0) else false
theorem own0 {v : GV} (h : v.k = 0) : Ret Tryz.prog F_value_own [eV v] (.iface 88 (.agg [])) := by have := value_own v; simpa [ownS, h] using this
theorem own1 {v : GV} (h : v.k = 1) : Ret Tryz.prog F_value_own [eV v] (.iface 89 (.int .i64 v.n)) := by have := value_own v; simpa [ownS, h] using this
theorem own2 {v : GV} (h : v.k = 2) : Ret Tryz.prog F_value_own [eV v] (.iface 91 (.str v.s)) := by have := value_own v; simpa [ownS, h] using this
theorem own3 {v : GV} (h : v.k = 3) : Ret Tryz.prog F_value_own [eV v] (.iface 90 (.bool (!decide (v.n = 0)))) := by have := value_own v; simpa [ownS, h] using this
theorem own4 {v : GV} (h : v.k = 4) : Ret Tryz.prog F_value_own [eV v] (.iface 94 (.int .i64 v.n)) := by have := value_own v; simpa [ownS, h] using this
theorem own5 {v : GV} (h : ¬ v.k = 0) (h1 : ¬ v.k = 1) (h2 : ¬ v.k = 2) (h3 : ¬ v.k = 3) (h4 : ¬ v.k = 4) : Ret Tryz.prog F_value_own [eV v] .nilI := by have := value_own v; simpa [ownS, h, h1, h2, h3, h4] using this
theorem value_Good (v : GV) : Ret Tryz.prog F_value_Good [eV v] (.bool (goodV v)) := by
 obtain ⟨k, n, s⟩ := v
 by_cases h0 : k = 0
 ·subst h0
  refine r_value_Good rfl fun _ => ?_
  repeat' ((conv => whnf); (first | refine csp (fun h => ?_) (fun h => ?_) | refine cllo (own0 rfl) (fun _ => ?_) | refine cllo (num_Good _) (fun _ => ?_) | (refine sda ?_ ?_; (focus (first | rfl | (simp; done)))) | refine sda ?_ ?_ | refine conk rfl ?_ | refine ldk rfl ?_ | refine mapk (fun x hx => ?_) | exact ⟨rfl, rfl⟩ | refine nilk (fun h => ?_) ?_ | intro hl))
  all_goals conv => whnf
  all_goals simp_all [goodV]
 by_cases h1 : k = 1
 ·subst h1
  refine r_value_Good rfl fun _ => ?_
  repeat' ((conv => whnf); (first | refine csp (fun h => ?_) (fun h => ?_) | refine cllo (own1 rfl) (fun _ => ?_) | refine cllo (num_Good _) (fun _ => ?_) | (refine sda ?_ ?_; (focus (first | rfl | (simp; done)))) | refine sda ?_ ?_ | refine conk rfl ?_ | refine ldk rfl ?_ | refine mapk (fun x hx => ?_) | exact ⟨rfl, rfl⟩ | refine nilk (fun h => ?_) ?_ | intro hl))
  all_goals conv => whnf
  all_goals simp_all [goodV]
 by_cases h2 : k = 2
 ·subst h2
  refine r_value_Good rfl fun _ => ?_
  repeat' ((conv => whnf); (first | refine csp (fun h => ?_) (fun h => ?_) | refine cllo (own2 rfl) (fun _ => ?_) | refine cllo (num_Good _) (fun _ => ?_) | (refine sda ?_ ?_; (focus (first | rfl | (simp; done)))) | refine sda ?_ ?_ | refine conk rfl ?_ | refine ldk rfl ?_ | refine mapk (fun x hx => ?_) | exact ⟨rfl, rfl⟩ | refine nilk (fun h => ?_) ?_ | intro hl))
  all_goals conv => whnf
  all_goals simp_all [goodV]
  all_goals omega
 by_cases h3 : k = 3
 ·subst h3
  refine r_value_Good rfl fun _ => ?_
  repeat' ((conv => whnf); (first | refine csp (fun h => ?_) (fun h => ?_) | refine cllo (own3 rfl) (fun _ => ?_) | refine cllo (num_Good _) (fun _ => ?_) | (refine sda ?_ ?_; (focus (first | rfl | (simp; done)))) | refine sda ?_ ?_ | refine conk rfl ?_ | refine ldk rfl ?_ | refine mapk (fun x hx => ?_) | exact ⟨rfl, rfl⟩ | refine nilk (fun h => ?_) ?_ | intro hl))
  all_goals conv => whnf
  all_goals simp_all [goodV]
 by_cases h4 : k = 4
 ·subst h4
  refine r_value_Good rfl fun _ => ?_
  repeat' ((conv => whnf); (first | refine csp (fun h => ?_) (fun h => ?_) | refine cllo (own4 rfl) (fun _ => ?_) | refine cllo (num_Good _) (fun _ => ?_) | (refine sda ?_ ?_; (focus (first | rfl | (simp; done)))) | refine sda ?_ ?_ | refine conk rfl ?_ | refine ldk rfl ?_ | refine mapk (fun x hx => ?_) | exact ⟨rfl, rfl⟩ | refine nilk (fun h => ?_) ?_ | intro hl))
  all_goals conv => whnf
  all_goals simp_all [goodV]
  all_goals omega
 ·refine r_value_Good rfl fun _ => ?_
  repeat' ((conv => whnf); (first | refine csp (fun h => ?_) (fun h => ?_) | refine cllo (own5 h0 h1 h2 h3 h4) (fun _ => ?_) | (refine sda ?_ ?_; (focus (first | rfl | (simp; done)))) | refine sda ?_ ?_ | refine conk rfl ?_ | refine ldk rfl ?_ | refine mapk (fun x hx => ?_) | exact ⟨rfl, rfl⟩ | refine nilk (fun h => ?_) ?_ | intro hl))
  all_goals conv => whnf
  all_goals simp_all [goodV]
def toNumS (v : GV) : Int × Int := if v.k = 0 then (0, 0) else if v.k = 1 then (v.n, 0) else if v.k = 3 then (if v.n = 0 then 0 else 10000, 0) else if v.k = 4 then (0, v.n) else (0, 2)
theorem value_ToNum (v : GV) (h2 : ¬ v.k = 2) : Ret Tryz.prog F_value_ToNum [eV v] (.tup [.int .i64 (toNumS v).1, .int .i64 (toNumS v).2]) := by
 obtain ⟨k, n, s⟩ := v
 by_cases h0 : k = 0
 ·subst h0
  refine r_value_ToNum rfl fun _ => ?_
  repeat' ((conv => whnf); (first | refine csp (fun h => ?_) (fun h => ?_) | refine cllo (own0 rfl) (fun _ => ?_) | (refine sda ?_ ?_; (focus (first | rfl | (simp; done)))) | refine sda ?_ ?_ | refine conk rfl ?_ | refine ldk rfl ?_ | refine mapk (fun x hx => ?_) | exact ⟨rfl, rfl⟩ | refine nilk (fun h => ?_) ?_ | intro hl))
  all_goals conv => whnf
  all_goals simp_all [toNumS]
 by_cases h1 : k = 1
 ·subst h1
  refine r_value_ToNum rfl fun _ => ?_
  repeat' ((conv => whnf); (first | refine csp (fun h => ?_) (fun h => ?_) | refine cllo (own1 rfl) (fun _ => ?_) | (refine sda ?_ ?_; (focus (first | rfl | (simp; done)))) | refine sda ?_ ?_ | refine conk rfl ?_ | refine ldk rfl ?_ | refine mapk (fun x hx => ?_) | exact ⟨rfl, rfl⟩ | refine nilk (fun h => ?_) ?_ | intro hl))
  all_goals conv => whnf
  all_goals simp_all [toNumS]
 by_cases h3 : k = 3
 ·subst h3
  refine r_value_ToNum rfl fun _ => ?_
  repeat' ((conv => whnf); (first | refine csp (fun h => ?_) (fun h => ?_) | refine cllo (own3 rfl) (fun _ => ?_) | (refine sda ?_ ?_; (focus (first | rfl | (simp; done)))) | refine sda ?_ ?_ | refine conk rfl ?_ | refine ldk rfl ?_ | refine mapk (fun x hx => ?_) | exact ⟨rfl, rfl⟩ | refine nilk (fun h => ?_) ?_ | intro hl))
  all_goals conv => whnf
  all_goals simp_all [toNumS]
 by_cases h4 : k = 4
 ·subst h4
  refine r_value_ToNum rfl fun _ => ?_
  repeat' ((conv => whnf); (first | refine csp (fun h => ?_) (fun h => ?_) | refine cllo (own4 rfl) (fun _ => ?_) | (refine sda ?_ ?_; (focus (first | rfl | (simp; done)))) | refine sda ?_ ?_ | refine conk rfl ?_ | refine ldk rfl ?_ | refine mapk (fun x hx => ?_) | exact ⟨rfl, rfl⟩ | refine nilk (fun h => ?_) ?_ | intro hl))
  all_goals conv => whnf
  all_goals simp_all [toNumS]
 ·refine r_value_ToNum rfl fun _ => ?_
  repeat' ((conv => whnf); (first | refine csp (fun h => ?_) (fun h => ?_) | refine cllo (own5 h0 h1 h2 h3 h4) (fun _ => ?_) | (refine sda ?_ ?_; (focus (first | rfl | (simp; done)))) | refine sda ?_ ?_ | refine conk rfl ?_ | refine ldk rfl ?_ | refine mapk (fun x hx => ?_) | exact ⟨rfl, rfl⟩ | refine nilk (fun h => ?_) ?_ | intro hl))
  all_goals conv => whnf
  all_goals simp_all [toNumS]
def goodA (a : Ar) : Bool := decide (1 ≤ a.rows ∧ 1 ≤ a.cols ∧ a.rows ≤ 4096 ∧ a.cols ≤ 4096 ∧ (a.l.length : Int) = a.rows * a.cols) && a.l.all goodV
theorem take_good {l : List GV} {i : Nat} {x : GV} {p : GV → Bool} (hx : l[i]? = some x) (h : (l.take i).all p = true) (hp : p x = true) : (l.take (i + 1)).all p = true := by
 rw [List.take_add_one, hx]
 simp only [Option.toList, List.all_append, h, List.all_cons, hp, List.all_nil, Bool.and_self]
theorem w64 {n : Int} (h : -9223372036854775808 ≤ n ∧ n ≤ 9223372036854775807) : IntKind.i64.wrap n = n := (wrap_iff .i64 n).2 (by simp only [kLo, kHi]; omega)
theorem mulb {r c : Int} (h1 : 1 ≤ r) (h2 : r ≤ 4096) (h3 : 1 ≤ c) (h4 : c ≤ 4096) : 1 ≤ r * c ∧ r * c ≤ 16777216 :=
 ⟨by have := Int.mul_le_mul h1 h3 (by omega) (by omega); omega, by have := Int.mul_le_mul h2 h4 (by omega) (by omega); omega⟩
theorem goodA_no {a : Ar} {i : Nat} {x : GV} (hx : a.l[i]? = some x) (h : goodV x = false) : goodA a = false := by
 unfold goodA
 rw [Bool.and_eq_false_iff]
 right
 rw [List.all_eq_false]
 exact ⟨x, List.mem_of_getElem? hx, by simp [h]⟩
theorem goodA_bad {a : Ar} (h : ¬ (1 ≤ a.rows ∧ 1 ≤ a.cols ∧ a.rows ≤ 4096 ∧ a.cols ≤ 4096 ∧ (a.l.length : Int) = a.rows * a.cols)) : goodA a = false := by
 unfold goodA
 rw [decide_eq_false h, Bool.false_and]
theorem goodA_yes {a : Ar} (h : 1 ≤ a.rows ∧ 1 ≤ a.cols ∧ a.rows ≤ 4096 ∧ a.cols ≤ 4096 ∧ (a.l.length : Int) = a.rows * a.cols) (hl : a.l.all goodV = true) : goodA a = true := by
 unfold goodA
 rw [decide_eq_true h, hl, Bool.true_and]
theorem maths_Good (a : Ar) : Ret Tryz.prog F_maths_Good [eA a] (.bool (goodA a)) := by
 refine r_maths_Good rfl fun hw => ?_
 clear hw
 repeat' ((conv => whnf); (first | refine csp (fun h => ?_) (fun h => ?_) | (refine sda ?_ ?_; (focus (first | rfl | (simp; done)))) | refine sda ?_ ?_ | refine conk rfl ?_ | refine ldk rfl ?_ | refine mapk (fun x hx => ?_) | exact ⟨rfl, rfl⟩ | refine nilk (fun h => ?_) ?_ | intro hl))
 rotate_right
 ·try simp only [tz] at *
  have hm := mulb (r := a.rows) (c := a.cols) (by omega) (by omega) (by omega) (by omega)
  have hL : (a.l.length : Int) = a.rows * a.cols := by
   have := w64 (n := a.rows * a.cols) (by omega)
   omega
  refine .inl ⟨Int, [35, 36, 37], [], fun i => [(35, .row false (a.l.map cV)), (36, .int .i64 a.l.length), (37, .int .i64 i)], fun _ => [], fun i => 0 ≤ i ∧ i ≤ a.l.length ∧ (a.l.take i.toNat).all goodV = true, fun i => (a.l.length - i).toNat, rfl, ?_, fun i hi => ?_⟩
  ·exact ⟨0, rfl, rfl, by simp⟩
  ·obtain ⟨hi0, hi1, hi2⟩ := hi
   repeat' ((conv => whnf); (first | refine csp (fun h => ?_) (fun h => ?_) | refine cllo (value_Good _) (fun _ => ?_) | (refine sda ?_ ?_; (focus (first | rfl | (simp; done)))) | refine sda ?_ ?_ | refine conk rfl ?_ | refine ldk rfl ?_ | refine mapk (fun x hx => ?_) | exact ⟨rfl, rfl⟩ | refine nilk (fun h => ?_) ?_ | intro hl))
   ·try simp only [tz] at *
    omega
   ·conv => whnf
    rw [goodA_no hx (by simpa using h)]
   ·conv => whnf
    try simp only [tz] at *
    have hw1 := w64 (n := i + 1) (by omega)
    refine ⟨i + 1, by rw [hw1], by trivial, ⟨by omega, by omega, ?_⟩, by omega⟩
    rw [show (i + 1).toNat = i.toNat + 1 by omega]
    exact take_good hx hi2 h
   ·conv => whnf
    try simp only [tz] at *
    rw [goodA_yes (by omega)]
    have : a.l.take i.toNat = a.l := List.take_of_length_le (by omega)
    rwa [this] at hi2
 all_goals conv => whnf
 all_goals try simp only [tz] at *
 ·rw [goodA_bad (by omega)]
 ·rw [goodA_bad (by omega)]
 ·rw [goodA_bad (by omega)]
 ·rw [goodA_bad (by omega)]
 ·have hm := mulb (r := a.rows) (c := a.cols) (by omega) (by omega) (by omega) (by omega)
  rw [w64 (by omega)] at h
  rw [goodA_bad (by omega)]
end Go.Proofs.YtllceoncpgebpaaGreatDoor
set_option maxRecDepth 100000
set_option linter.all false
namespace Go.Proofs.YtllceoncpgebpaaGreatDoor
open Ab R
def oneS (a : Ar) : GV := if a.l.length = 1 ∧ goodA a = true then a.l.headD ⟨0, 0, e0⟩ else badS 2
theorem maths_One (a : Ar) : Ret Tryz.prog F_maths_One [eA a] (eV (oneS a)) := by
 refine r_maths_One rfl fun hw => ?_
 clear hw
 repeat' ((conv => whnf); (first | refine csp (fun h => ?_) (fun h => ?_) | refine cllo (maths_Good _) (fun _ => ?_) | refine cllo (value_Bad _) (fun _ => ?_) | (refine sda ?_ ?_; (focus (first | rfl | (simp; done)))) | refine sda ?_ ?_ | refine conk rfl ?_ | refine ldk rfl ?_ | refine mapk (fun x hx => ?_) | exact ⟨rfl, rfl⟩ | refine nilk (fun h => ?_) ?_ | intro hl))
 all_goals conv => whnf
 all_goals try simp only [tz] at *
 ·rw [oneS, if_neg (fun q => by omega)]
 ·rw [oneS, if_neg (by rw [h]; simp)]
 ·omega
 ·obtain ⟨r, c, l, m⟩ := a
  cases l with
  | nil => cases hx
  | cons y l =>
   cases hx
   rw [oneS, if_pos ⟨by omega, h⟩]
   rfl
def wholeS (n : Int) : Int × Bool := if goodN n = true ∧ n.tmod 10000 = 0 then (n.tdiv 10000, true) else (0, false)
theorem tdivb {n : Int} (h : goodN n = true) : -10000000 ≤ n.tdiv 10000 ∧ n.tdiv 10000 ≤ 10000000 := by
 simp only [goodN, decide_eq_true_eq] at h
 rw [Int.tdiv_eq_ediv]
 split
 ·omega
 ·simp only [show Int.sign 10000 = 1 from rfl]
  omega
theorem num_Whole (n : Int) : Ret Tryz.prog F_num_Whole [.int .i64 n] (.tup [.int .i64 (wholeS n).1, .bool (wholeS n).2]) := by
 refine r_num_Whole rfl fun hw => ?_
 clear hw
 repeat' ((conv => whnf); (first | refine csp (fun h => ?_) (fun h => ?_) | refine cllo (num_Good _) (fun _ => ?_) | (refine sda ?_ ?_; (focus (first | rfl | (simp; done)))) | refine sda ?_ ?_ | refine conk rfl ?_ | refine ldk rfl ?_ | refine mapk (fun x hx => ?_) | exact ⟨rfl, rfl⟩ | refine nilk (fun h => ?_) ?_ | intro hl))
 all_goals conv => whnf
 all_goals try simp only [tz] at *
 ·rw [wholeS, if_neg (by simp [h])]
 ·rw [wholeS, if_neg (fun q => h q.2)]
 ·have h1 : goodN n = true := by assumption
  have := tdivb h1
  rw [wholeS, if_pos ⟨h1, h⟩, w64 (by omega)]
theorem goodA_out {a : Ar} (h : goodA a = true) : (1 ≤ a.rows ∧ 1 ≤ a.cols ∧ a.rows ≤ 4096 ∧ a.cols ≤ 4096 ∧ (a.l.length : Int) = a.rows * a.cols) ∧ a.l.all goodV = true := by
 unfold goodA at h
 simp only [Bool.and_eq_true, decide_eq_true_eq] at h
 exact h
theorem bytesb {a b : Nat} (h1 : a ≤ 11) (h2 : Nat.ble b 1000 = true) : Nat.le (a * b) 140737488355327 := by
 have := Nat.le_of_ble_eq_true h2
 have := Nat.mul_le_mul h1 this
 show a * b ≤ 140737488355327
 omega
end Go.Proofs.YtllceoncpgebpaaGreatDoor
set_option maxRecDepth 100000
set_option linter.all false
namespace Go.Proofs.YtllceoncpgebpaaGreatDoor
open Ab R
theorem goodV_size {v : GV} (h : goodV v = true) : v.s.size ≤ 255 := by
 unfold goodV at h
 split at h
 ·simp only [decide_eq_true_eq] at h; rw [h.2]; decide
 ·split at h
  ·simp only [Bool.and_eq_true, decide_eq_true_eq] at h; rw [h.2]; decide
  ·split at h
   ·simp only [decide_eq_true_eq] at h; exact h.2
   ·split at h
    ·simp only [decide_eq_true_eq] at h; rw [h.2]; decide
    ·split at h
     ·simp only [decide_eq_true_eq] at h; rw [h.2.2]; decide
     ·cases h
theorem goodV_bad (n : Int) : goodV (badS n) = true := by
 unfold goodV badS
 simp
 split <;> omega
theorem oneS_good (a : Ar) : goodV (oneS a) = true := by
 unfold oneS
 split
 ·rename_i h
  obtain ⟨h1, h2⟩ := h
  have h3 := (goodA_out h2).2
  match hl : a.l, h1 with
  | [x], _ => rw [hl] at h3; simpa using h3
 ·exact goodV_bad 2
theorem prs_bd (s : ByteArray) : -100000000000 ≤ (Nm.prs s).1 ∧ (Nm.prs s).1 ≤ 100000000000 := by
 have out_b : ∀ n : Int, -100000000000 ≤ (Nm.out n).1 ∧ (Nm.out n).1 ≤ 100000000000 := fun n => by
  unfold Nm.out
  split
  ·rename_i h; exact h
  ·simp
 have fin_b : ∀ b W R p, -100000000000 ≤ (Nm.fin b W R p).1 ∧ (Nm.fin b W R p).1 ≤ 100000000000 := fun b W R p => by
  unfold Nm.fin
  split
  ·exact out_b _
  ·simp
 unfold Nm.prs
 split
 ·exact fin_b _ _ _ _
 ·exact fin_b _ _ _ _
theorem prs_good (s : ByteArray) : -100000000000 ≤ (Vl.tnum 2 0 s).1 ∧ (Vl.tnum 2 0 s).1 ≤ 100000000000 := by
 have out_b : ∀ n : Int, -100000000000 ≤ (Nm.out n).1 ∧ (Nm.out n).1 ≤ 100000000000 := fun n => by
  unfold Nm.out
  split
  ·rename_i h; exact h
  ·simp
 have fin_b : ∀ b W R p, -100000000000 ≤ (Nm.fin b W R p).1 ∧ (Nm.fin b W R p).1 ≤ 100000000000 := fun b W R p => by
  unfold Nm.fin
  split
  ·exact out_b _
  ·simp
 have : -100000000000 ≤ (Nm.prs s).1 ∧ (Nm.prs s).1 ≤ 100000000000 := by
  unfold Nm.prs
  split
  ·exact fin_b _ _ _ _
  ·exact fin_b _ _ _ _
 show -100000000000 ≤ (if (Nm.prs s).2 = true then ((Nm.prs s).1, 0) else (0, 2) : Int × Int).1 ∧ (if (Nm.prs s).2 = true then ((Nm.prs s).1, 0) else (0, 2) : Int × Int).1 ≤ 100000000000
 split
 ·exact this
 ·simp
abbrev tn (v : GV) : Int × Int := Vl.tnum v.k v.n v.s
theorem tn_good {v : GV} (h : goodV v = true) : goodN (tn v).1 = true ∧ 0 ≤ (tn v).2 ∧ (tn v).2 ≤ 8 ∧ ((tn v).2 ≠ 0 → (tn v).1 = 0) := by
 obtain ⟨k, n, s⟩ := v
 have hp := prs_good s
 unfold goodV at h
 simp only [tn, Vl.tnum] at *
 by_cases h0 : k = 0
 ·subst h0
  simp [goodN]
 by_cases h1 : k = 1
 ·subst h1
  simp at h ⊢
  exact h.1
 by_cases h3 : k = 3
 ·subst h3
  simp only [if_neg h0, if_neg h1]
  simp
  split <;> simp [goodN]
 by_cases h2 : k = 2
 ·subst h2
  simp only [if_neg h0, if_neg h1, if_neg h3] at *
  simp at hp ⊢
  split
  ·rename_i hh
   rw [if_pos hh] at hp
   simpa [goodN] using hp
  ·simp [goodN]
 by_cases h4 : k = 4
 ·subst h4
  simp at h ⊢
  simp [goodN]
  omega
 simp [h0, h1, h2, h3, h4] at h
theorem ToNum_g (v : GV) (h : goodV v = true) : Ret Tryz.prog F_value_ToNum [eV v] (.tup [.int .i64 (tn v).1, .int .i64 (tn v).2]) := by
 by_cases h2 : v.k = 2
 ·have hs := goodV_size h
  have hb := prs_bd v.s
  have hp : Ret Tryz.prog F_num_Parse [.str v.s] (.tup [.int .i64 (Nm.prs v.s).1, .bool (Nm.prs v.s).2]) := c_num_Parse v.s _ _ (Nm.Parse_is (by omega)) (w64 (by omega))
  have ho := own2 h2
  have e : tn v = if (Nm.prs v.s).2 = true then ((Nm.prs v.s).1, 0) else (0, 2) := by simp [tn, Vl.tnum, h2]
  rw [e]
  refine r_value_ToNum rfl fun hw => ?_
  clear hw
  repeat' ((conv => whnf); (first | refine csp (fun h => ?_) (fun h => ?_) | refine cllo (ho) (fun _ => ?_) | refine cllo (hp) (fun _ => ?_) | (refine sda ?_ ?_; (focus (first | rfl | (simp; done)))) | refine sda ?_ ?_ | refine conk rfl ?_ | refine ldk rfl ?_ | refine mapk (fun x hx => ?_) | exact ⟨rfl, rfl⟩ | refine nilk (fun h => ?_) ?_ | intro hl))
  all_goals conv => whnf
  all_goals simp_all
 ·have e : tn v = toNumS v := by
   simp [tn, Vl.tnum, toNumS, h2]
   by_cases c : v.n = 0 <;> simp [c]
  rw [e]
  exact value_ToNum v h2
abbrev tb (v : GV) : Bool × Int := Vl.tboo v.k v.n v.s
theorem tb_good {v : GV} (h : goodV v = true) : 0 ≤ (tb v).2 ∧ (tb v).2 ≤ 8 := by
 obtain ⟨k, n, s⟩ := v
 unfold goodV at h
 simp only [tb, Vl.tboo] at *
 by_cases h0 : k = 0
 ·subst h0; simp
 by_cases h1 : k = 1
 ·subst h1; simp
 by_cases h2 : k = 2
 ·subst h2; simp; split <;> simp
 by_cases h3 : k = 3
 ·subst h3; simp
 by_cases h4 : k = 4
 ·subst h4; simp at h ⊢; omega
 simp [h0, h1, h2, h3, h4] at h
theorem k_of {v : GV} (h : goodV v = true) : v.k = 0 ∨ v.k = 1 ∨ v.k = 2 ∨ v.k = 3 ∨ v.k = 4 := by
 by_cases h0 : v.k = 0
 ·exact .inl h0
 by_cases h1 : v.k = 1
 ·exact .inr (.inl h1)
 by_cases h2 : v.k = 2
 ·exact .inr (.inr (.inl h2))
 by_cases h3 : v.k = 3
 ·exact .inr (.inr (.inr (.inl h3)))
 by_cases h4 : v.k = 4
 ·exact .inr (.inr (.inr (.inr h4)))
 ·simp [goodV, h0, h1, h2, h3, h4] at h
theorem ToBool_g (v : GV) (h : goodV v = true) : Ret Tryz.prog F_value_ToBool [eV v] (.tup [.bool (tb v).1, .int .i64 (tb v).2]) := by
 have hs := goodV_size h
 have hp : Ret Tryz.prog F_value_word [.str v.s] (.tup [.bool (decide (Vl.wrd v.s = 1)), .bool (decide (Vl.wrd v.s ≥ 0))]) := c_value_word v.s _ _ (Vl.word_is (by omega))
 rcases k_of h with q | q | q | q | q
 ·have ho := own0 q
  refine r_value_ToBool rfl fun hw => ?_
  clear hw
  repeat' ((conv => whnf); (first | refine csp (fun h => ?_) (fun h => ?_) | refine cllo (ho) (fun _ => ?_) | refine cllo (hp) (fun _ => ?_) | (refine sda ?_ ?_; (focus (first | rfl | (simp; done)))) | refine sda ?_ ?_ | refine conk rfl ?_ | refine ldk rfl ?_ | refine mapk (fun x hx => ?_) | exact ⟨rfl, rfl⟩ | refine nilk (fun h => ?_) ?_ | intro hl))
  all_goals conv => whnf
  all_goals simp_all [tb, Vl.tboo]
 ·have ho := own1 q
  refine r_value_ToBool rfl fun hw => ?_
  clear hw
  repeat' ((conv => whnf); (first | refine csp (fun h => ?_) (fun h => ?_) | refine cllo (ho) (fun _ => ?_) | refine cllo (hp) (fun _ => ?_) | (refine sda ?_ ?_; (focus (first | rfl | (simp; done)))) | refine sda ?_ ?_ | refine conk rfl ?_ | refine ldk rfl ?_ | refine mapk (fun x hx => ?_) | exact ⟨rfl, rfl⟩ | refine nilk (fun h => ?_) ?_ | intro hl))
  all_goals conv => whnf
  all_goals simp_all [tb, Vl.tboo]
  by_cases c : v.n = 0 <;> simp [c]
 ·have ho := own2 q
  refine r_value_ToBool rfl fun hw => ?_
  clear hw
  repeat' ((conv => whnf); (first | refine csp (fun h => ?_) (fun h => ?_) | refine cllo (ho) (fun _ => ?_) | refine cllo (hp) (fun _ => ?_) | (refine sda ?_ ?_; (focus (first | rfl | (simp; done)))) | refine sda ?_ ?_ | refine conk rfl ?_ | refine ldk rfl ?_ | refine mapk (fun x hx => ?_) | exact ⟨rfl, rfl⟩ | refine nilk (fun h => ?_) ?_ | intro hl))
  all_goals conv => whnf
  all_goals simp_all [tb, Vl.tboo]
  rw [if_neg (by omega)]
  simp
 ·have ho := own3 q
  refine r_value_ToBool rfl fun hw => ?_
  clear hw
  repeat' ((conv => whnf); (first | refine csp (fun h => ?_) (fun h => ?_) | refine cllo (ho) (fun _ => ?_) | refine cllo (hp) (fun _ => ?_) | (refine sda ?_ ?_; (focus (first | rfl | (simp; done)))) | refine sda ?_ ?_ | refine conk rfl ?_ | refine ldk rfl ?_ | refine mapk (fun x hx => ?_) | exact ⟨rfl, rfl⟩ | refine nilk (fun h => ?_) ?_ | intro hl))
  all_goals conv => whnf
  all_goals simp_all [tb, Vl.tboo]
  by_cases c : v.n = 0 <;> simp [c]
 ·have ho := own4 q
  refine r_value_ToBool rfl fun hw => ?_
  clear hw
  repeat' ((conv => whnf); (first | refine csp (fun h => ?_) (fun h => ?_) | refine cllo (ho) (fun _ => ?_) | refine cllo (hp) (fun _ => ?_) | (refine sda ?_ ?_; (focus (first | rfl | (simp; done)))) | refine sda ?_ ?_ | refine conk rfl ?_ | refine ldk rfl ?_ | refine mapk (fun x hx => ?_) | exact ⟨rfl, rfl⟩ | refine nilk (fun h => ?_) ?_ | intro hl))
  all_goals conv => whnf
  all_goals simp_all [tb, Vl.tboo]
noncomputable abbrev tx (v : GV) : ByteArray × Int := Vl.ttxt v.k v.n v.s
theorem tx_good {v : GV} (h : goodV v = true) : (tx v).1.size ≤ 255 ∧ 0 ≤ (tx v).2 ∧ (tx v).2 ≤ 8 := by
 have hs := goodV_size h
 obtain ⟨k, n, s⟩ := v
 unfold goodV at h
 simp only [tx, Vl.ttxt, Vl.txt] at *
 by_cases h0 : k = 0
 ·subst h0; simp; decide
 by_cases h1 : k = 1
 ·subst h1
  simp at h ⊢
  have hg := h.1
  simp only [goodN, decide_eq_true_eq] at hg
  have := Vl.prt_sz (n := n) (by omega) (by omega)
  omega
 by_cases h2 : k = 2
 ·subst h2; simp; exact hs
 by_cases h3 : k = 3
 ·subst h3; simp; split <;> decide
 by_cases h4 : k = 4
 ·subst h4; simp at h ⊢; exact ⟨by decide, by omega, by omega⟩
 simp [h0, h1, h2, h3, h4] at h
theorem goodV_n {v : GV} (h : goodV v = true) : -100000000000 ≤ v.n ∧ v.n ≤ 100000000000 := by
 unfold goodV at h
 split at h
 ·simp only [decide_eq_true_eq] at h; omega
 ·split at h
  ·simp only [Bool.and_eq_true, goodN, decide_eq_true_eq] at h; exact h.1
  ·split at h
   ·simp only [decide_eq_true_eq] at h; omega
   ·split at h
    ·simp only [decide_eq_true_eq] at h; omega
    ·split at h
     ·simp only [decide_eq_true_eq] at h; omega
     ·cases h
theorem Text_g (v : GV) (h : goodV v = true) (hk : ¬ v.k = 4) : Ret Tryz.prog F_value_Text [eV v] (.str (Vl.txt v.k v.n v.s)) := by
 have hn := goodV_n h
 have hp : Ret Tryz.prog F_num_Print [.int .i64 v.n] (.str (Vl.prt v.n)) := c_num_Print v.n _ (Vl.Prt_is (by omega) (by omega)).1 (by have := Vl.prt_sz (n := v.n) (by omega) (by omega); omega)
 rcases k_of h with q | q | q | q | q
 ·have ho := own0 q
  refine r_value_Text rfl fun hw => ?_
  clear hw
  repeat' ((conv => whnf); (first | refine csp (fun h => ?_) (fun h => ?_) | refine cllo (ho) (fun _ => ?_) | refine cllo (hp) (fun _ => ?_) | (refine sda ?_ ?_; (focus (first | rfl | (simp; done)))) | refine sda ?_ ?_ | refine conk rfl ?_ | refine ldk rfl ?_ | refine mapk (fun x hx => ?_) | exact ⟨rfl, rfl⟩ | refine nilk (fun h => ?_) ?_ | intro hl))
  all_goals conv => whnf
  all_goals simp_all [tx, Vl.ttxt, Vl.txt]
 ·have ho := own1 q
  refine r_value_Text rfl fun hw => ?_
  clear hw
  repeat' ((conv => whnf); (first | refine csp (fun h => ?_) (fun h => ?_) | refine cllo (ho) (fun _ => ?_) | refine cllo (hp) (fun _ => ?_) | (refine sda ?_ ?_; (focus (first | rfl | (simp; done)))) | refine sda ?_ ?_ | refine conk rfl ?_ | refine ldk rfl ?_ | refine mapk (fun x hx => ?_) | exact ⟨rfl, rfl⟩ | refine nilk (fun h => ?_) ?_ | intro hl))
  all_goals conv => whnf
  all_goals simp_all [tx, Vl.ttxt, Vl.txt]
 ·have ho := own2 q
  refine r_value_Text rfl fun hw => ?_
  clear hw
  repeat' ((conv => whnf); (first | refine csp (fun h => ?_) (fun h => ?_) | refine cllo (ho) (fun _ => ?_) | refine cllo (hp) (fun _ => ?_) | (refine sda ?_ ?_; (focus (first | rfl | (simp; done)))) | refine sda ?_ ?_ | refine conk rfl ?_ | refine ldk rfl ?_ | refine mapk (fun x hx => ?_) | exact ⟨rfl, rfl⟩ | refine nilk (fun h => ?_) ?_ | intro hl))
  all_goals conv => whnf
  all_goals simp_all [tx, Vl.ttxt, Vl.txt]
 ·have ho := own3 q
  refine r_value_Text rfl fun hw => ?_
  clear hw
  repeat' ((conv => whnf); (first | refine csp (fun h => ?_) (fun h => ?_) | refine cllo (ho) (fun _ => ?_) | refine cllo (hp) (fun _ => ?_) | (refine sda ?_ ?_; (focus (first | rfl | (simp; done)))) | refine sda ?_ ?_ | refine conk rfl ?_ | refine ldk rfl ?_ | refine mapk (fun x hx => ?_) | exact ⟨rfl, rfl⟩ | refine nilk (fun h => ?_) ?_ | intro hl))
  all_goals conv => whnf
  all_goals simp_all [tx, Vl.ttxt, Vl.txt]
 ·exact absurd q hk
theorem ToText_g (v : GV) (h : goodV v = true) : Ret Tryz.prog F_value_ToText [eV v] (.tup [.str (tx v).1, .int .i64 (tx v).2]) := by
 by_cases hk : v.k = 4
 ·have ho := own4 hk
  refine r_value_ToText rfl fun hw => ?_
  clear hw
  repeat' ((conv => whnf); (first | refine csp (fun h => ?_) (fun h => ?_) | refine cllo (ho) (fun _ => ?_) | (refine sda ?_ ?_; (focus (first | rfl | (simp; done)))) | refine sda ?_ ?_ | refine conk rfl ?_ | refine ldk rfl ?_ | refine mapk (fun x hx => ?_) | exact ⟨rfl, rfl⟩ | refine nilk (fun h => ?_) ?_ | intro hl))
  all_goals conv => whnf
  all_goals simp_all [tx, Vl.ttxt]
 have hp := Text_g v h hk
 have e : tx v = (Vl.txt v.k v.n v.s, 0) := by simp [tx, Vl.ttxt, hk]
 rw [e]
 rcases k_of h with q | q | q | q | q
 ·have ho := own0 q
  refine r_value_ToText rfl fun hw => ?_
  clear hw
  repeat' ((conv => whnf); (first | refine csp (fun h => ?_) (fun h => ?_) | refine cllo (ho) (fun _ => ?_) | refine cllo (hp) (fun _ => ?_) | (refine sda ?_ ?_; (focus (first | rfl | (simp; done)))) | refine sda ?_ ?_ | refine conk rfl ?_ | refine ldk rfl ?_ | refine mapk (fun x hx => ?_) | exact ⟨rfl, rfl⟩ | refine nilk (fun h => ?_) ?_ | intro hl))
  all_goals conv => whnf
  all_goals rfl
 ·have ho := own1 q
  refine r_value_ToText rfl fun hw => ?_
  clear hw
  repeat' ((conv => whnf); (first | refine csp (fun h => ?_) (fun h => ?_) | refine cllo (ho) (fun _ => ?_) | refine cllo (hp) (fun _ => ?_) | (refine sda ?_ ?_; (focus (first | rfl | (simp; done)))) | refine sda ?_ ?_ | refine conk rfl ?_ | refine ldk rfl ?_ | refine mapk (fun x hx => ?_) | exact ⟨rfl, rfl⟩ | refine nilk (fun h => ?_) ?_ | intro hl))
  all_goals conv => whnf
  all_goals rfl
 ·have ho := own2 q
  refine r_value_ToText rfl fun hw => ?_
  clear hw
  repeat' ((conv => whnf); (first | refine csp (fun h => ?_) (fun h => ?_) | refine cllo (ho) (fun _ => ?_) | refine cllo (hp) (fun _ => ?_) | (refine sda ?_ ?_; (focus (first | rfl | (simp; done)))) | refine sda ?_ ?_ | refine conk rfl ?_ | refine ldk rfl ?_ | refine mapk (fun x hx => ?_) | exact ⟨rfl, rfl⟩ | refine nilk (fun h => ?_) ?_ | intro hl))
  all_goals conv => whnf
  all_goals rfl
 ·have ho := own3 q
  refine r_value_ToText rfl fun hw => ?_
  clear hw
  repeat' ((conv => whnf); (first | refine csp (fun h => ?_) (fun h => ?_) | refine cllo (ho) (fun _ => ?_) | refine cllo (hp) (fun _ => ?_) | (refine sda ?_ ?_; (focus (first | rfl | (simp; done)))) | refine sda ?_ ?_ | refine conk rfl ?_ | refine ldk rfl ?_ | refine mapk (fun x hx => ?_) | exact ⟨rfl, rfl⟩ | refine nilk (fun h => ?_) ?_ | intro hl))
  all_goals conv => whnf
  all_goals rfl
 ·exact absurd q hk
end Go.Proofs.YtllceoncpgebpaaGreatDoor
set_option maxRecDepth 100000
set_option linter.all false
namespace Go.Proofs.YtllceoncpgebpaaGreatDoor
open Ab R
theorem ref05_Good (n : Int) : Ret Tryz.prog F_octavoref05_Good [.int .i64 n] (.bool (goodN n)) := by
 refine r_octavoref05_Good rfl fun _ => ?_
 repeat' ((conv => whnf); (first | refine csp (fun h => ?_) (fun h => ?_) | (refine sda ?_ ?_; (focus (first | rfl | (simp; done)))) | refine sda ?_ ?_ | refine conk rfl ?_ | refine ldk rfl ?_ | refine mapk (fun x hx => ?_) | exact ⟨rfl, rfl⟩ | refine nilk (fun h => ?_) ?_ | intro hl))
 all_goals conv => whnf
 all_goals simp_all [goodN]
 all_goals omega
theorem ref06_Good (v : GV) : Ret Tryz.prog F_octavoref06_Good [eV v] (.bool (goodV v)) := by
 refine r_octavoref06_Good rfl fun hw => ?_
 clear hw
 repeat' ((conv => whnf); (first | refine csp (fun h => ?_) (fun h => ?_) | refine cllo (ref05_Good _) (fun _ => ?_) | (refine sda ?_ ?_; (focus (first | rfl | (simp; done)))) | refine sda ?_ ?_ | refine conk rfl ?_ | refine ldk rfl ?_ | refine mapk (fun x hx => ?_) | exact ⟨rfl, rfl⟩ | refine nilk (fun h => ?_) ?_ | intro hl))
 all_goals conv => whnf
 all_goals simp_all [goodV]
 all_goals omega
theorem ref17_Good (a : Ar) : Ret Tryz.prog F_octavoref17_Good [eA a] (.bool (goodA a)) := by
 refine r_octavoref17_Good rfl fun hw => ?_
 clear hw
 repeat' ((conv => whnf); (first | refine csp (fun h => ?_) (fun h => ?_) | (refine sda ?_ ?_; (focus (first | rfl | (simp; done)))) | refine sda ?_ ?_ | refine conk rfl ?_ | refine ldk rfl ?_ | refine mapk (fun x hx => ?_) | exact ⟨rfl, rfl⟩ | refine nilk (fun h => ?_) ?_ | intro hl))
 rotate_right
 ·try simp only [tz] at *
  have hm := mulb (r := a.rows) (c := a.cols) (by omega) (by omega) (by omega) (by omega)
  have hL : (a.l.length : Int) = a.rows * a.cols := by
   have := w64 (n := a.rows * a.cols) (by omega)
   omega
  refine .inl ⟨Int, [35, 36, 37], [], fun i => [(35, .row false (a.l.map cV)), (36, .int .i64 a.l.length), (37, .int .i64 i)], fun _ => [], fun i => 0 ≤ i ∧ i ≤ a.l.length ∧ (a.l.take i.toNat).all goodV = true, fun i => (a.l.length - i).toNat, rfl, ?_, fun i hi => ?_⟩
  ·exact ⟨0, rfl, rfl, by simp⟩
  ·obtain ⟨hi0, hi1, hi2⟩ := hi
   repeat' ((conv => whnf); (first | refine csp (fun h => ?_) (fun h => ?_) | refine cllo (ref06_Good _) (fun _ => ?_) | (refine sda ?_ ?_; (focus (first | rfl | (simp; done)))) | refine sda ?_ ?_ | refine conk rfl ?_ | refine ldk rfl ?_ | refine mapk (fun x hx => ?_) | exact ⟨rfl, rfl⟩ | refine nilk (fun h => ?_) ?_ | intro hl))
   ·try simp only [tz] at *
    omega
   ·conv => whnf
    rw [goodA_no hx (by simpa using h)]
   ·conv => whnf
    try simp only [tz] at *
    have hw1 := w64 (n := i + 1) (by omega)
    refine ⟨i + 1, by rw [hw1], by trivial, ⟨by omega, by omega, ?_⟩, by omega⟩
    rw [show (i + 1).toNat = i.toNat + 1 by omega]
    exact take_good hx hi2 h
   ·conv => whnf
    try simp only [tz] at *
    rw [goodA_yes (by omega)]
    have : a.l.take i.toNat = a.l := List.take_of_length_le (by omega)
    rwa [this] at hi2
 all_goals conv => whnf
 all_goals try simp only [tz] at *
 ·rw [goodA_bad (by omega)]
 ·rw [goodA_bad (by omega)]
 ·rw [goodA_bad (by omega)]
 ·rw [goodA_bad (by omega)]
 ·have hm := mulb (r := a.rows) (c := a.cols) (by omega) (by omega) (by omega) (by omega)
  rw [w64 (by omega)] at h
  rw [goodA_bad (by omega)]
def lightV (n : Int) (v : GV) : Int := IntKind.i64.wrap (n + IntKind.i64.wrap ((v.s.size : Int).tdiv 50))
def lightA (n : Int) (a : Ar) : Int := a.l.foldl lightV (IntKind.i64.wrap (n + a.l.length))
def lightS (l : List Ar) : Bool := decide (l.foldl lightA l.length < 400)
theorem fold_take {α β : Type} {f : β → α → β} {b : β} {l : List α} {i : Nat} {x : α} (hx : l[i]? = some x) : (l.take (i + 1)).foldl f b = f ((l.take i).foldl f b) x := by
 rw [List.take_add_one, hx]
 simp [List.foldl_append]
theorem law_light19 (l : List Ar) : Ret Tryz.prog F_octavolaw19_light [.row false (l.map cA)] (.bool (lightS l)) := by
 refine r_octavolaw19_light rfl fun hw => ?_
 clear hw
 repeat' ((conv => whnf); (first | refine csp (fun h => ?_) (fun h => ?_) | (refine sda ?_ ?_; (focus (first | rfl | (simp; done)))) | refine sda ?_ ?_ | refine conk rfl ?_ | refine ldk rfl ?_ | refine mapk (fun x hx => ?_) | exact ⟨rfl, rfl⟩ | refine nilk (fun h => ?_) ?_ | intro hl))
 try simp only [tz] at *
 refine .inl ⟨Nat, [3, 10, 11, 12], [], fun i => [(3, .int .i64 ((l.take i).foldl lightA l.length)), (10, .row false (l.map cA)), (11, .int .i64 l.length), (12, .int .i64 i)], fun _ => [], fun i => i ≤ l.length, fun i => l.length - i, rfl, ?_, fun i hi => ?_⟩
 ·exact ⟨0, rfl, by trivial, Nat.zero_le _⟩
 ·repeat' ((conv => whnf); (first | refine csp (fun h => ?_) (fun h => ?_) | (refine sda ?_ ?_; (focus (first | rfl | (simp; done)))) | refine sda ?_ ?_ | refine conk rfl ?_ | refine ldk rfl ?_ | refine mapk (fun x hx => ?_) | exact ⟨rfl, rfl⟩ | refine nilk (fun h => ?_) ?_ | intro hl))
  ·try simp only [tz] at *
   omega
  ·rename Ar => y
   rename l[_]? = some y => hy
   have hy' : l[i]? = some y := hy
   have hly : y.l.length ≤ 9223372036854775807 := by simpa using hl
   have hlt := (List.getElem?_eq_some_iff.1 hy').1
   try simp only [tz] at *
   refine .inl ⟨Nat, [3, 10, 11, 12, 22, 23, 24], [], fun k => [(3, .int .i64 ((y.l.take k).foldl lightV (IntKind.i64.wrap ((l.take i).foldl lightA l.length + y.l.length)))), (10, .row false (l.map cA)), (11, .int .i64 l.length), (12, .int .i64 i), (22, .row false (y.l.map cV)), (23, .int .i64 y.l.length), (24, .int .i64 k)], fun _ => [], fun k => k ≤ y.l.length, fun k => y.l.length - k, rfl, ?_, fun k hk => ?_⟩
   ·exact ⟨0, rfl, by trivial, Nat.zero_le _⟩
   ·repeat' ((conv => whnf); (first | refine csp (fun h => ?_) (fun h => ?_) | (refine sda ?_ ?_; (focus (first | rfl | (simp; done)))) | refine sda ?_ ?_ | refine conk rfl ?_ | refine ldk rfl ?_ | refine mapk (fun x hx => ?_) | exact ⟨rfl, rfl⟩ | refine nilk (fun h => ?_) ?_ | intro hl))
    all_goals conv => whnf
    all_goals try simp only [tz] at *
    ·omega
    ·have hx' : y.l[k]? = some x := hx
     refine ⟨k + 1, ?_, by trivial, by omega, by omega⟩
     rw [fold_take hx', w64 (n := (k : Int) + 1) (by omega)]
     rfl
    ·refine ⟨i + 1, ?_, by trivial, by omega, by omega⟩
     have hk2 : y.l.take k = y.l := List.take_of_length_le (by omega)
     rw [fold_take hy', w64 (n := (i : Int) + 1) (by omega), hk2]
     rfl
  ·conv => whnf
   try simp only [tz] at *
   have : l.take i = l := List.take_of_length_le (by omega)
   rw [this]
   rfl
end Go.Proofs.YtllceoncpgebpaaGreatDoor
set_option maxRecDepth 100000
set_option linter.all false
namespace Go.Proofs.YtllceoncpgebpaaGreatDoor
open Ab R
def truS (b : Bool) : GV := ⟨3, if b = true then 1 else 0, e0⟩
theorem logic_truth (b : Bool) : Ret Tryz.prog F_logic_truth [.bool b] (eV (truS b)) := by
 refine r_logic_truth rfl fun hw => ?_
 clear hw
 repeat' ((conv => whnf); (first | refine csp (fun h => ?_) (fun h => ?_) | (refine sda ?_ ?_; (focus (first | rfl | (simp; done)))) | refine sda ?_ ?_ | refine conk rfl ?_ | refine ldk rfl ?_ | refine mapk (fun x hx => ?_) | exact ⟨rfl, rfl⟩ | refine nilk (fun h => ?_) ?_ | intro hl))
 all_goals conv => whnf
 all_goals simp_all [truS]
def whS (k : Int) : GV := ofS (IntKind.i64.wrap (k * 10000)) true
theorem logic_whole (k : Int) : Ret Tryz.prog F_logic_whole [.int .i64 k] (eV (whS k)) := by
 refine r_logic_whole rfl fun hw => ?_
 clear hw
 repeat' ((conv => whnf); (first | refine csp (fun h => ?_) (fun h => ?_) | refine cllo (value_Of _ _) (fun _ => ?_) | (refine sda ?_ ?_; (focus (first | rfl | (simp; done)))) | refine sda ?_ ?_ | refine conk rfl ?_ | refine ldk rfl ?_ | refine mapk (fun x hx => ?_) | exact ⟨rfl, rfl⟩ | refine nilk (fun h => ?_) ?_ | intro hl))
 all_goals conv => whnf
 all_goals rfl
def toldS (d : Int) (ok : Bool) : GV := if ok = true then whS d else badS 5
theorem logic_told (d : Int) (ok : Bool) : Ret Tryz.prog F_logic_told [.int .i64 d, .bool ok] (eV (toldS d ok)) := by
 refine r_logic_told rfl fun hw => ?_
 clear hw
 repeat' ((conv => whnf); (first | refine csp (fun h => ?_) (fun h => ?_) | refine cllo (value_Bad _) (fun _ => ?_) | refine cllo (logic_whole _) (fun _ => ?_) | (refine sda ?_ ?_; (focus (first | rfl | (simp; done)))) | refine sda ?_ ?_ | refine conk rfl ?_ | refine ldk rfl ?_ | refine mapk (fun x hx => ?_) | exact ⟨rfl, rfl⟩ | refine nilk (fun h => ?_) ?_ | intro hl))
 all_goals conv => whnf
 all_goals simp_all [toldS]
theorem l19_one (v : GV) : Ret Tryz.prog F_octavolaw19_one [eV v] (eA ⟨1, 1, [v], false⟩) := by
 refine r_octavolaw19_one rfl fun hw => ?_
 clear hw
 repeat' ((conv => whnf); (first | refine csp (fun h => ?_) (fun h => ?_) | (refine sda ?_ ?_; (focus (first | rfl | (simp; done)))) | refine sda ?_ ?_ | refine conk rfl ?_ | refine ldk rfl ?_ | refine mapk (fun x hx => ?_) | exact ⟨rfl, rfl⟩ | refine nilk (fun h => ?_) ?_ | intro hl))
 all_goals conv => whnf
 all_goals rfl
theorem l19_number (n : Int) : Ret Tryz.prog F_octavolaw19_number [.int .i64 n] (eA ⟨1, 1, [⟨1, n, e0⟩], false⟩) := by
 refine r_octavolaw19_number rfl fun hw => ?_
 clear hw
 repeat' ((conv => whnf); (first | refine csp (fun h => ?_) (fun h => ?_) | refine cllo (l19_one ⟨1, n, e0⟩) (fun _ => ?_) | (refine sda ?_ ?_; (focus (first | rfl | (simp; done)))) | refine sda ?_ ?_ | refine conk rfl ?_ | refine ldk rfl ?_ | refine mapk (fun x hx => ?_) | exact ⟨rfl, rfl⟩ | refine nilk (fun h => ?_) ?_ | intro hl))
 all_goals conv => whnf
theorem l19_text (s : ByteArray) : Ret Tryz.prog F_octavolaw19_text [.str s] (eA ⟨1, 1, [⟨2, 0, s⟩], false⟩) := by
 refine r_octavolaw19_text rfl fun hw => ?_
 clear hw
 repeat' ((conv => whnf); (first | refine csp (fun h => ?_) (fun h => ?_) | refine cllo (l19_one ⟨2, 0, s⟩) (fun _ => ?_) | (refine sda ?_ ?_; (focus (first | rfl | (simp; done)))) | refine sda ?_ ?_ | refine conk rfl ?_ | refine ldk rfl ?_ | refine mapk (fun x hx => ?_) | exact ⟨rfl, rfl⟩ | refine nilk (fun h => ?_) ?_ | intro hl))
 all_goals conv => whnf
theorem l19_call0 (nm : ByteArray) (g : FuncId)  (n : Int) (args : List (List V)) (r : GV) (hf : Ret Tryz.prog F_logic_find [.str nm] (.tup [.fn g [] [], .int .i64 n])) (hr : Ret Tryz.prog g [.row false args] (eV r)) (h1 : (n < 0 ∧ args.length ≠ 0) ∨ n = args.length) :
  Ret Tryz.prog F_logic_Call [.str nm, .row false args] (.tup [eV r, .bool true]) := by
 refine r_logic_Call rfl fun hw => ?_
 clear hw
 repeat' ((conv => whnf); (first | refine csp (fun h => ?_) (fun h => ?_) | refine cllo (hf) (fun _ => ?_) | refine cllo (hr) (fun _ => ?_) | refine cllo (value_Bad _) (fun _ => ?_) | (refine sda ?_ ?_; (focus (first | rfl | (simp; done)))) | refine sda ?_ ?_ | refine conk rfl ?_ | refine ldk rfl ?_ | refine mapk (fun x hx => ?_) | exact ⟨rfl, rfl⟩ | refine nilk (fun h => ?_) ?_ | intro hl))
 all_goals conv => whnf
 all_goals try simp only [tz] at *
 all_goals exfalso
 all_goals omega
theorem l19_ask0 (nm : ByteArray) (g : FuncId)  (n : Int) (args : List (List V)) (r : GV) (hf : Ret Tryz.prog F_logic_find [.str nm] (.tup [.fn g [] [], .int .i64 n])) (hr : Ret Tryz.prog g [.row false args] (eV r)) (h1 : (n < 0 ∧ args.length ≠ 0) ∨ n = args.length) :
  Ret Tryz.prog F_octavolaw19_ask [.str nm, .row false args] (eV r) := by
 have hc := l19_call0 nm g  n args r hf hr h1
 refine r_octavolaw19_ask rfl fun hw => ?_
 clear hw
 repeat' ((conv => whnf); (first | refine csp (fun h => ?_) (fun h => ?_) | refine cllo (hc) (fun _ => ?_) | (refine sda ?_ ?_; (focus (first | rfl | (simp; done)))) | refine sda ?_ ?_ | refine conk rfl ?_ | refine ldk rfl ?_ | refine mapk (fun x hx => ?_) | exact ⟨rfl, rfl⟩ | refine nilk (fun h => ?_) ?_ | intro hl))
 all_goals conv => whnf
theorem l19_callF (nm : ByteArray) (g : FuncId) (f : FuncId) (n : Int) (args : List (List V)) (r : GV) (hf : Ret Tryz.prog F_logic_find [.str nm] (.tup [.fn g [] [.elem [.fn f [] []]], .int .i64 n])) (hr : Ret Tryz.prog g [.row false args, .elem [.fn f [] []]] (eV r)) (h1 : (n < 0 ∧ args.length ≠ 0) ∨ n = args.length) :
  Ret Tryz.prog F_logic_Call [.str nm, .row false args] (.tup [eV r, .bool true]) := by
 refine r_logic_Call rfl fun hw => ?_
 clear hw
 repeat' ((conv => whnf); (first | refine csp (fun h => ?_) (fun h => ?_) | refine cllo (hf) (fun _ => ?_) | refine cllo (hr) (fun _ => ?_) | refine cllo (value_Bad _) (fun _ => ?_) | (refine sda ?_ ?_; (focus (first | rfl | (simp; done)))) | refine sda ?_ ?_ | refine conk rfl ?_ | refine ldk rfl ?_ | refine mapk (fun x hx => ?_) | exact ⟨rfl, rfl⟩ | refine nilk (fun h => ?_) ?_ | intro hl))
 all_goals conv => whnf
 all_goals try simp only [tz] at *
 all_goals exfalso
 all_goals omega
theorem l19_askF (nm : ByteArray) (g : FuncId) (f : FuncId) (n : Int) (args : List (List V)) (r : GV) (hf : Ret Tryz.prog F_logic_find [.str nm] (.tup [.fn g [] [.elem [.fn f [] []]], .int .i64 n])) (hr : Ret Tryz.prog g [.row false args, .elem [.fn f [] []]] (eV r)) (h1 : (n < 0 ∧ args.length ≠ 0) ∨ n = args.length) :
  Ret Tryz.prog F_octavolaw19_ask [.str nm, .row false args] (eV r) := by
 have hc := l19_callF nm g f n args r hf hr h1
 refine r_octavolaw19_ask rfl fun hw => ?_
 clear hw
 repeat' ((conv => whnf); (first | refine csp (fun h => ?_) (fun h => ?_) | refine cllo (hc) (fun _ => ?_) | (refine sda ?_ ?_; (focus (first | rfl | (simp; done)))) | refine sda ?_ ?_ | refine conk rfl ?_ | refine ldk rfl ?_ | refine mapk (fun x hx => ?_) | exact ⟨rfl, rfl⟩ | refine nilk (fun h => ?_) ?_ | intro hl))
 all_goals conv => whnf
theorem l19_callK (nm : ByteArray) (g : FuncId) (f : FuncId) (k : Int) (n : Int) (args : List (List V)) (r : GV) (hf : Ret Tryz.prog F_logic_find [.str nm] (.tup [.fn g [] [.elem [.fn f [] [.elem [.int .i64 k]]]], .int .i64 n])) (hr : Ret Tryz.prog g [.row false args, .elem [.fn f [] [.elem [.int .i64 k]]]] (eV r)) (h1 : (n < 0 ∧ args.length ≠ 0) ∨ n = args.length) :
  Ret Tryz.prog F_logic_Call [.str nm, .row false args] (.tup [eV r, .bool true]) := by
 refine r_logic_Call rfl fun hw => ?_
 clear hw
 repeat' ((conv => whnf); (first | refine csp (fun h => ?_) (fun h => ?_) | refine cllo (hf) (fun _ => ?_) | refine cllo (hr) (fun _ => ?_) | refine cllo (value_Bad _) (fun _ => ?_) | (refine sda ?_ ?_; (focus (first | rfl | (simp; done)))) | refine sda ?_ ?_ | refine conk rfl ?_ | refine ldk rfl ?_ | refine mapk (fun x hx => ?_) | exact ⟨rfl, rfl⟩ | refine nilk (fun h => ?_) ?_ | intro hl))
 all_goals conv => whnf
 all_goals try simp only [tz] at *
 all_goals exfalso
 all_goals omega
theorem l19_callB (nm : ByteArray) (g : FuncId) (b : Bool) (n : Int) (args : List (List V)) (r : GV) (hf : Ret Tryz.prog F_logic_find [.str nm] (.tup [.fn g [] [.elem [.bool b]], .int .i64 n])) (hr : Ret Tryz.prog g [.row false args, .elem [.bool b]] (eV r)) (h1 : (n < 0 ∧ args.length ≠ 0) ∨ n = args.length) :
  Ret Tryz.prog F_logic_Call [.str nm, .row false args] (.tup [eV r, .bool true]) := by
 refine r_logic_Call rfl fun hw => ?_
 clear hw
 repeat' ((conv => whnf); (first | refine csp (fun h => ?_) (fun h => ?_) | refine cllo (hf) (fun _ => ?_) | refine cllo (hr) (fun _ => ?_) | refine cllo (value_Bad _) (fun _ => ?_) | (refine sda ?_ ?_; (focus (first | rfl | (simp; done)))) | refine sda ?_ ?_ | refine conk rfl ?_ | refine ldk rfl ?_ | refine mapk (fun x hx => ?_) | exact ⟨rfl, rfl⟩ | refine nilk (fun h => ?_) ?_ | intro hl))
 all_goals conv => whnf
 all_goals try simp only [tz] at *
 all_goals exfalso
 all_goals omega
theorem l19_callV (nm : ByteArray) (g : FuncId) (v : GV) (n : Int) (args : List (List V)) (r : GV) (hf : Ret Tryz.prog F_logic_find [.str nm] (.tup [.fn g [] [.elem (cV v)], .int .i64 n])) (hr : Ret Tryz.prog g [.row false args, .elem (cV v)] (eV r)) (h1 : (n < 0 ∧ args.length ≠ 0) ∨ n = args.length) :
  Ret Tryz.prog F_logic_Call [.str nm, .row false args] (.tup [eV r, .bool true]) := by
 refine r_logic_Call rfl fun hw => ?_
 clear hw
 repeat' ((conv => whnf); (first | refine csp (fun h => ?_) (fun h => ?_) | refine cllo (hf) (fun _ => ?_) | refine cllo (hr) (fun _ => ?_) | refine cllo (value_Bad _) (fun _ => ?_) | (refine sda ?_ ?_; (focus (first | rfl | (simp; done)))) | refine sda ?_ ?_ | refine conk rfl ?_ | refine ldk rfl ?_ | refine mapk (fun x hx => ?_) | exact ⟨rfl, rfl⟩ | refine nilk (fun h => ?_) ?_ | intro hl))
 all_goals conv => whnf
 all_goals try simp only [tz] at *
 all_goals exfalso
 all_goals omega
end Go.Proofs.YtllceoncpgebpaaGreatDoor
set_option maxRecDepth 100000
set_option linter.all false
namespace Go.Proofs.YtllceoncpgebpaaGreatDoor
open Ab R
theorem foldT {α β : Type} {f : β → α → β} {b : β} {l : List α} {i : Nat} {x : α} (hx : l[i]? = some x) : (l.take (i + 1)).foldl f b = f ((l.take i).foldl f b) x := by
 rw [List.take_add_one, hx]
 simp [List.foldl_append]
theorem foldD {α β : Type} {f : β → α → β} {b : β} {l : List α} {i : Nat} {x : α} (hx : l[i]? = some x) : l.foldl f b = (l.drop (i + 1)).foldl f (f ((l.take i).foldl f b) x) := by
 conv => lhs; rw [← List.take_append_drop (i + 1) l]
 rw [List.foldl_append, foldT hx]
def stV (many : Bool) (st : Int × Int × Int) (v : GV) : Int × Int × Int :=
 if st.1 ≠ 0 then st else if many = true ∧ (v.k = 0 ∨ v.k = 2) then st else if 0 < (tb v).2 then ((tb v).2, 0, 0) else if (tb v).1 = true then (0, IntKind.i64.wrap (st.2.1 + 1), st.2.2) else (0, st.2.1, IntKind.i64.wrap (st.2.2 + 1))
def stA (st : Int × Int × Int) (a : Ar) : Int × Int × Int :=
 if st.1 ≠ 0 then st else if goodA a = false then (2, 0, 0) else a.l.foldl (stV (decide (1 < (a.l.length : Int)))) st
def votesS (l : List Ar) : Int × Int × Int := l.foldl stA (0, 0, 0)
theorem stV_err (m : Bool) : ∀ (l : List GV) (st : Int × Int × Int), st.1 ≠ 0 → l.foldl (stV m) st = st
 | [], _, _ => rfl
 | v :: l, st, h => by rw [List.foldl_cons, stV, if_pos h]; exact stV_err m l st h
theorem stA_err : ∀ (l : List Ar) (st : Int × Int × Int), st.1 ≠ 0 → l.foldl stA st = st
 | [], _, _ => rfl
 | v :: l, st, h => by rw [List.foldl_cons, stA, if_pos h]; exact stA_err l st h
theorem goodA_mem {a : Ar} (h : goodA a = true) {v : GV} (hv : v ∈ a.l) : goodV v = true := List.all_eq_true.1 (goodA_out h).2 v hv
def inS (l : List Ar) (i : Nat) (y : Ar) (k : Nat) : Int × Int × Int := (y.l.take k).foldl (stV (decide (1 < (y.l.length : Int)))) ((l.take i).foldl stA (0, 0, 0))
theorem inS_next {l : List Ar} {i : Nat} {y : Ar} {k : Nat} {x : GV} (hx : y.l[k]? = some x) : inS l i y (k + 1) = stV (decide (1 < (y.l.length : Int))) (inS l i y k) x := foldT hx
theorem inS_err {l : List Ar} {i : Nat} {y : Ar} {k : Nat} {x : GV} (hy : l[i]? = some y) (hg : goodA y = true) (h0 : ((l.take i).foldl stA (0, 0, 0)).1 = 0) (hx : y.l[k]? = some x) (he : (stV (decide (1 < (y.l.length : Int))) (inS l i y k) x).1 ≠ 0) :
  votesS l = stV (decide (1 < (y.l.length : Int))) (inS l i y k) x := by
 have h1 : stA ((l.take i).foldl stA (0, 0, 0)) y = stV (decide (1 < (y.l.length : Int))) (inS l i y k) x := by
  rw [stA, if_neg (by rw [h0]; simp), if_neg (by rw [hg]; simp), foldD hx]
  exact stV_err _ _ _ he
 rw [votesS, foldD hy, h1]
 exact stA_err _ _ he
theorem inS_end {l : List Ar} {i : Nat} {y : Ar} (hy : l[i]? = some y) (hg : goodA y = true) (h0 : ((l.take i).foldl stA (0, 0, 0)).1 = 0) {k : Nat} (hk : k = y.l.length) : (l.take (i + 1)).foldl stA (0, 0, 0) = inS l i y k := by
 rw [foldT hy, stA, if_neg (by rw [h0]; simp), if_neg (by rw [hg]; simp), inS, hk, List.take_length]
theorem votes_1 (f : FuncId) (p : Int → Int → Bool) (hf : ∀ y n, Ret Tryz.prog f [.int .i64 y, .int .i64 n] (.bool (p y n))) (l : List Ar) :
  Ret Tryz.prog F_logic_votes_1 [.row false (l.map cA), .elem [.fn f [] []]] (eV (if (votesS l).1 ≠ 0 then badS (votesS l).1 else truS (p (votesS l).2.1 (votesS l).2.2))) := by
 refine r_logic_votes_1 rfl fun hw => ?_
 clear hw
 repeat' ((conv => whnf); (first | refine csp (fun h => ?_) (fun h => ?_) | (refine sda ?_ ?_; (focus (first | rfl | (simp; done)))) | refine sda ?_ ?_ | refine conk rfl ?_ | refine ldk rfl ?_ | refine mapk (fun x hx => ?_) | exact ⟨rfl, rfl⟩ | refine nilk (fun h => ?_) ?_ | intro hl))
 try simp only [tz] at *
 refine .inl ⟨Nat, [1, 3, 4, 5, 12, 13, 14], [0], fun i => [(1, .elem [.fn f [] []]), (3, .ptr 0 0), (4, .int .i64 ((l.take i).foldl stA (0, 0, 0)).2.1), (5, .int .i64 ((l.take i).foldl stA (0, 0, 0)).2.2), (12, .row false (l.map cA)), (13, .int .i64 l.length), (14, .int .i64 i)], fun _ => [.box true (cV ⟨0, 0, e0⟩)], fun i => i ≤ l.length ∧ ((l.take i).foldl stA (0, 0, 0)).1 = 0, fun i => l.length - i, rfl, ?_, fun i hi => ?_⟩
 ·exact ⟨0, rfl, by trivial, Nat.zero_le _, rfl⟩
 ·obtain ⟨hi, h0⟩ := hi
  repeat' ((conv => whnf); (first | refine csp (fun h => ?_) (fun h => ?_) | refine cllo (maths_Good _) (fun _ => ?_) | refine cllo (value_Bad _) (fun _ => ?_) | (refine sda ?_ ?_; (focus (first | rfl | (simp; done)))) | refine sda ?_ ?_ | refine conk rfl ?_ | refine ldk rfl ?_ | refine mapk (fun x hx => ?_) | exact ⟨rfl, rfl⟩ | refine nilk (fun h => ?_) ?_ | intro hl))
  ·try simp only [tz] at *
   omega
  ·have hx' : l[i]? = some x := hx
   conv => whnf
   try simp only [tz] at *
   have e : votesS l = (2, 0, 0) := by rw [votesS, foldD hx', stA, if_neg (by rw [h0]; simp), if_pos h]; exact stA_err _ _ (by simp)
   rw [e]
   rfl
  ·rename Ar => y
   rename l[_]? = some y => hy
   have hy' : l[i]? = some y := hy
   have hlt := (List.getElem?_eq_some_iff.1 hy').1
   try simp only [tz] at *
   have hg : goodA y = true := by assumption
   refine .inl ⟨Nat, [1, 3, 4, 5, 7, 12, 13, 14, 23, 24, 25], [0, 1], fun k => [(1, .elem [.fn f [] []]), (3, .ptr 0 0), (4, .int .i64 (inS l i y k).2.1), (5, .int .i64 (inS l i y k).2.2), (7, .ptr 1 0), (12, .row false (l.map cA)), (13, .int .i64 l.length), (14, .int .i64 i), (23, .row false (y.l.map cV)), (24, .int .i64 y.l.length), (25, .int .i64 k)], fun _ => [.box true (cV ⟨0, 0, e0⟩), .box true (cA y)], fun k => k ≤ y.l.length ∧ (inS l i y k).1 = 0, fun k => y.l.length - k, rfl, ?_, fun k hk => ?_⟩
   ·exact ⟨0, rfl, by trivial, Nat.zero_le _, h0⟩
   ·obtain ⟨hk, hk0⟩ := hk
    repeat' ((conv => whnf); (first | refine csp (fun h => ?_) (fun h => ?_) | refine cllo (ToBool_g _ (goodA_mem hg (List.mem_of_getElem? hx))) (fun _ => ?_) | refine cllo (value_Bad _) (fun _ => ?_) | (refine sda ?_ ?_; (focus (first | rfl | (simp; done)))) | refine sda ?_ ?_ | refine conk rfl ?_ | refine ldk rfl ?_ | refine mapk (fun x hx => ?_) | exact ⟨rfl, rfl⟩ | refine nilk (fun h => ?_) ?_ | intro hl))
    all_goals conv => whnf
    all_goals try simp only [tz] at *
    ·omega
    ·have hx' : y.l[k]? = some x := hx
     have e : stV (decide (1 < (y.l.length : Int))) (inS l i y k) x = inS l i y k := by rw [stV, if_neg (by rw [hk0]; simp), if_pos ⟨decide_eq_true (by assumption), by simp [h]⟩]
     refine ⟨k + 1, ?_, by trivial, ⟨by omega, by rw [inS_next hx', e]; exact hk0⟩, by omega⟩
     rw [inS_next hx', e, w64 (by omega)]
     rfl
    ·have hx' : y.l[k]? = some x := hx
     have e : stV (decide (1 < (y.l.length : Int))) (inS l i y k) x = inS l i y k := by rw [stV, if_neg (by rw [hk0]; simp), if_pos ⟨decide_eq_true (by assumption), by simp [h]⟩]
     refine ⟨k + 1, ?_, by trivial, ⟨by omega, by rw [inS_next hx', e]; exact hk0⟩, by omega⟩
     rw [inS_next hx', e, w64 (by omega)]
     rfl
    ·have hx' : y.l[k]? = some x := hx
     have e : stV (decide (1 < (y.l.length : Int))) (inS l i y k) x = ((tb x).2, 0, 0) := by rw [stV, if_neg (by rw [hk0]; simp), if_neg (fun q => by have := of_decide_eq_true q.1; rcases q.2 with a | a <;> omega), if_pos h]
     have e2 := inS_err hy' hg h0 hx' (by rw [e]; simp only; omega)
     rw [e] at e2
     rw [e2, if_pos (by simp only; omega)]
    ·have hx' : y.l[k]? = some x := hx
     rename (tb x).1 = true => hb
     have e : stV (decide (1 < (y.l.length : Int))) (inS l i y k) x = (0, IntKind.i64.wrap ((inS l i y k).2.1 + 1), (inS l i y k).2.2) := by rw [stV, if_neg (by rw [hk0]; simp), if_neg (fun q => by have := of_decide_eq_true q.1; rcases q.2 with a | a <;> omega), if_neg (by omega), hb]; rfl
     refine ⟨k + 1, ?_, by trivial, ⟨by omega, by rw [inS_next hx', e]⟩, by omega⟩
     rw [inS_next hx', e, w64 (n := (k : Int) + 1) (by omega)]
     rfl
    ·have hx' : y.l[k]? = some x := hx
     rename (tb x).1 = false => hb
     have e : stV (decide (1 < (y.l.length : Int))) (inS l i y k) x = (0, (inS l i y k).2.1, IntKind.i64.wrap ((inS l i y k).2.2 + 1)) := by rw [stV, if_neg (by rw [hk0]; simp), if_neg (fun q => by have := of_decide_eq_true q.1; rcases q.2 with a | a <;> omega), if_neg (by omega), hb]; rfl
     refine ⟨k + 1, ?_, by trivial, ⟨by omega, by rw [inS_next hx', e]⟩, by omega⟩
     rw [inS_next hx', e, w64 (n := (k : Int) + 1) (by omega)]
     rfl
    ·have hx' : y.l[k]? = some x := hx
     have e : stV (decide (1 < (y.l.length : Int))) (inS l i y k) x = ((tb x).2, 0, 0) := by rw [stV, if_neg (by rw [hk0]; simp), if_neg (fun q => by have := of_decide_eq_true q.1; rcases q.2 with a | a <;> omega), if_pos h]
     have e2 := inS_err hy' hg h0 hx' (by rw [e]; simp only; omega)
     rw [e] at e2
     rw [e2, if_pos (by simp only; omega)]
    ·have hx' : y.l[k]? = some x := hx
     rename (tb x).1 = true => hb
     have e : stV (decide (1 < (y.l.length : Int))) (inS l i y k) x = (0, IntKind.i64.wrap ((inS l i y k).2.1 + 1), (inS l i y k).2.2) := by rw [stV, if_neg (by rw [hk0]; simp), if_neg (fun q => by have := of_decide_eq_true q.1; rcases q.2 with a | a <;> omega), if_neg (by omega), hb]; rfl
     refine ⟨k + 1, ?_, by trivial, ⟨by omega, by rw [inS_next hx', e]⟩, by omega⟩
     rw [inS_next hx', e, w64 (n := (k : Int) + 1) (by omega)]
     rfl
    ·have hx' : y.l[k]? = some x := hx
     rename (tb x).1 = false => hb
     have e : stV (decide (1 < (y.l.length : Int))) (inS l i y k) x = (0, (inS l i y k).2.1, IntKind.i64.wrap ((inS l i y k).2.2 + 1)) := by rw [stV, if_neg (by rw [hk0]; simp), if_neg (fun q => by have := of_decide_eq_true q.1; rcases q.2 with a | a <;> omega), if_neg (by omega), hb]; rfl
     refine ⟨k + 1, ?_, by trivial, ⟨by omega, by rw [inS_next hx', e]⟩, by omega⟩
     rw [inS_next hx', e, w64 (n := (k : Int) + 1) (by omega)]
     rfl
    ·have e := inS_end hy' hg h0 (k := k) (by omega)
     refine ⟨i + 1, ?_, by trivial, ⟨by omega, by rw [e]; exact hk0⟩, by omega⟩
     rw [e, w64 (n := (i : Int) + 1) (by omega)]
     rfl
  ·repeat' ((conv => whnf); (first | refine csp (fun h => ?_) (fun h => ?_) | refine cllo (hf _ _) (fun _ => ?_) | refine cllo (logic_truth _) (fun _ => ?_) | (refine sda ?_ ?_; (focus (first | rfl | (simp; done)))) | refine sda ?_ ?_ | refine conk rfl ?_ | refine ldk rfl ?_ | refine mapk (fun x hx => ?_) | exact ⟨rfl, rfl⟩ | refine nilk (fun h => ?_) ?_ | intro hl))
   all_goals conv => whnf
   try simp only [tz] at *
   have e : l.take i = l := List.take_of_length_le (by omega)
   rw [e] at h0 ⊢
   rw [votesS, if_neg (by rw [h0]; simp)]
end Go.Proofs.YtllceoncpgebpaaGreatDoor
set_option maxRecDepth 100000
set_option linter.all false
namespace Go.Proofs.YtllceoncpgebpaaGreatDoor
open Ab R
theorem find_1 (y n : Int) : Ret Tryz.prog F_logic_find_1 [.int .i64 y, .int .i64 n] (.bool (decide (n = 0))) := by
 refine r_logic_find_1 rfl fun hw => ?_
 clear hw
 repeat' ((conv => whnf); (first | refine csp (fun h => ?_) (fun h => ?_) | (refine sda ?_ ?_; (focus (first | rfl | (simp; done)))) | refine sda ?_ ?_ | refine conk rfl ?_ | refine ldk rfl ?_ | refine mapk (fun x hx => ?_) | exact ⟨rfl, rfl⟩ | refine nilk (fun h => ?_) ?_ | intro hl))
 all_goals conv => whnf
theorem find_2 (y n : Int) : Ret Tryz.prog F_logic_find_2 [.int .i64 y, .int .i64 n] (.bool (decide (y > 0))) := by
 refine r_logic_find_2 rfl fun hw => ?_
 clear hw
 repeat' ((conv => whnf); (first | refine csp (fun h => ?_) (fun h => ?_) | (refine sda ?_ ?_; (focus (first | rfl | (simp; done)))) | refine sda ?_ ?_ | refine conk rfl ?_ | refine ldk rfl ?_ | refine mapk (fun x hx => ?_) | exact ⟨rfl, rfl⟩ | refine nilk (fun h => ?_) ?_ | intro hl))
 all_goals conv => whnf
theorem find_3 (y n : Int) : Ret Tryz.prog F_logic_find_3 [.int .i64 y, .int .i64 n] (.bool (decide (y.tmod 2 = 1))) := by
 refine r_logic_find_3 rfl fun hw => ?_
 clear hw
 repeat' ((conv => whnf); (first | refine csp (fun h => ?_) (fun h => ?_) | (refine sda ?_ ?_; (focus (first | rfl | (simp; done)))) | refine sda ?_ ?_ | refine conk rfl ?_ | refine ldk rfl ?_ | refine mapk (fun x hx => ?_) | exact ⟨rfl, rfl⟩ | refine nilk (fun h => ?_) ?_ | intro hl))
 all_goals conv => whnf
theorem is_0 (g : FuncId) : Ret Tryz.prog F_logic_is [.fn g [] []] (.fn F_logic_is_1 [] [.elem [.fn g [] []]]) := by
 refine r_logic_is rfl fun hw => ?_
 clear hw
 repeat' ((conv => whnf); (first | refine csp (fun h => ?_) (fun h => ?_) | (refine sda ?_ ?_; (focus (first | rfl | (simp; done)))) | refine sda ?_ ?_ | refine conk rfl ?_ | refine ldk rfl ?_ | refine mapk (fun x hx => ?_) | exact ⟨rfl, rfl⟩ | refine nilk (fun h => ?_) ?_ | intro hl))
 all_goals conv => whnf
theorem is_k (g : FuncId) (k : Int) : Ret Tryz.prog F_logic_is [.fn g [] [.elem [.int .i64 k]]] (.fn F_logic_is_1 [] [.elem [.fn g [] [.elem [.int .i64 k]]]]) := by
 refine r_logic_is rfl fun hw => ?_
 clear hw
 repeat' ((conv => whnf); (first | refine csp (fun h => ?_) (fun h => ?_) | (refine sda ?_ ?_; (focus (first | rfl | (simp; done)))) | refine sda ?_ ?_ | refine conk rfl ?_ | refine ldk rfl ?_ | refine mapk (fun x hx => ?_) | exact ⟨rfl, rfl⟩ | refine nilk (fun h => ?_) ?_ | intro hl))
 all_goals conv => whnf
theorem kind_r (k : Int) : Ret Tryz.prog F_logic_kind [.int .i64 k] (.fn F_logic_is_1 [] [.elem [.fn F_logic_kind_1 [] [.elem [.int .i64 k]]]]) := by
 refine r_logic_kind rfl fun hw => ?_
 clear hw
 repeat' ((conv => whnf); (first | refine csp (fun h => ?_) (fun h => ?_) | refine cllo (is_k _ _) (fun _ => ?_) | (refine sda ?_ ?_; (focus (first | rfl | (simp; done)))) | refine sda ?_ ?_ | refine conk rfl ?_ | refine ldk rfl ?_ | refine mapk (fun x hx => ?_) | exact ⟨rfl, rfl⟩ | refine nilk (fun h => ?_) ?_ | intro hl))
 all_goals conv => whnf
theorem kind_1 (v : GV) (k : Int) : Ret Tryz.prog F_logic_kind_1 [eV v, .elem [.int .i64 k]] (.bool (decide (v.k = k))) := by
 refine r_logic_kind_1 rfl fun hw => ?_
 clear hw
 repeat' ((conv => whnf); (first | refine csp (fun h => ?_) (fun h => ?_) | (refine sda ?_ ?_; (focus (first | rfl | (simp; done)))) | refine sda ?_ ?_ | refine conk rfl ?_ | refine ldk rfl ?_ | refine mapk (fun x hx => ?_) | exact ⟨rfl, rfl⟩ | refine nilk (fun h => ?_) ?_ | intro hl))
 all_goals conv => whnf
theorem is1_0 (g : FuncId) (q : GV → Bool) (hq : ∀ v, Ret Tryz.prog g [eV v] (.bool (q v))) (a : Ar) : Ret Tryz.prog F_logic_is_1 [.row false [cA a], .elem [.fn g [] []]] (eV (truS (q (oneS a)))) := by
 refine r_logic_is_1 rfl fun hw => ?_
 clear hw
 repeat' ((conv => whnf); (first | refine csp (fun h => ?_) (fun h => ?_) | refine cllo (maths_One _) (fun _ => ?_) | refine cllo (hq _) (fun _ => ?_) | refine cllo (logic_truth _) (fun _ => ?_) | (refine sda ?_ ?_; (focus (first | rfl | (simp; done)))) | refine sda ?_ ?_ | refine conk rfl ?_ | refine ldk rfl ?_ | refine mapk (fun x hx => ?_) | exact ⟨rfl, rfl⟩ | refine nilk (fun h => ?_) ?_ | intro hl))
 all_goals conv => whnf
theorem is1_k (k : Int) (a : Ar) : Ret Tryz.prog F_logic_is_1 [.row false [cA a], .elem [.fn F_logic_kind_1 [] [.elem [.int .i64 k]]]] (eV (truS (decide ((oneS a).k = k)))) := by
 refine r_logic_is_1 rfl fun hw => ?_
 clear hw
 repeat' ((conv => whnf); (first | refine csp (fun h => ?_) (fun h => ?_) | refine cllo (maths_One _) (fun _ => ?_) | refine cllo (kind_1 _ _) (fun _ => ?_) | refine cllo (logic_truth _) (fun _ => ?_) | (refine sda ?_ ?_; (focus (first | rfl | (simp; done)))) | refine sda ?_ ?_ | refine conk rfl ?_ | refine ldk rfl ?_ | refine mapk (fun x hx => ?_) | exact ⟨rfl, rfl⟩ | refine nilk (fun h => ?_) ?_ | intro hl))
 all_goals conv => whnf
theorem kinds_1 (v : GV) : Ret Tryz.prog F_logic_kinds_1 [eV v] (.bool (!decide (v.k = 2))) := by
 refine r_logic_kinds_1 rfl fun hw => ?_
 clear hw
 repeat' ((conv => whnf); (first | refine csp (fun h => ?_) (fun h => ?_) | (refine sda ?_ ?_; (focus (first | rfl | (simp; done)))) | refine sda ?_ ?_ | refine conk rfl ?_ | refine ldk rfl ?_ | refine mapk (fun x hx => ?_) | exact ⟨rfl, rfl⟩ | refine nilk (fun h => ?_) ?_ | intro hl))
 all_goals conv => whnf
theorem kinds_2 (v : GV) : Ret Tryz.prog F_logic_kinds_2 [eV v] (.bool (decide (v.k = 4) && (decide (v.n = 6) && decide (v.s = e0)))) := by
 refine r_logic_kinds_2 rfl fun hw => ?_
 clear hw
 repeat' ((conv => whnf); (first | refine csp (fun h => ?_) (fun h => ?_) | refine cllo (value_Bad _) (fun _ => ?_) | (refine sda ?_ ?_; (focus (first | rfl | (simp; done)))) | refine sda ?_ ?_ | refine conk rfl ?_ | refine ldk rfl ?_ | refine mapk (fun x hx => ?_) | exact ⟨rfl, rfl⟩ | refine nilk (fun h => ?_) ?_ | intro hl))
 all_goals conv => whnf
 all_goals simp [badS]
theorem kinds_3 (v : GV) : Ret Tryz.prog F_logic_kinds_3 [eV v] (.bool (decide (v.k = 4) && !decide (v.n = 6))) := by
 refine r_logic_kinds_3 rfl fun hw => ?_
 clear hw
 repeat' ((conv => whnf); (first | refine csp (fun h => ?_) (fun h => ?_) | (refine sda ?_ ?_; (focus (first | rfl | (simp; done)))) | refine sda ?_ ?_ | refine conk rfl ?_ | refine ldk rfl ?_ | refine mapk (fun x hx => ?_) | exact ⟨rfl, rfl⟩ | refine nilk (fun h => ?_) ?_ | intro hl))
 all_goals conv => whnf
 all_goals simp_all
def typS (v : GV) : Int := if v.k = 2 then 2 else if v.k = 3 then 4 else if v.k = 4 then 16 else 1
theorem kinds_4 (a : Ar) : Ret Tryz.prog F_logic_kinds_4 [.row false [cA a]] (eV (whS (typS (oneS a)))) := by
 have hk : (oneS a).k = 0 ∨ (oneS a).k = 1 ∨ (oneS a).k = 2 ∨ (oneS a).k = 3 ∨ (oneS a).k = 4 := by
  have hg := oneS_good a
  unfold goodV at hg
  by_cases h0 : (oneS a).k = 0 <;> by_cases h1 : (oneS a).k = 1 <;> by_cases h2 : (oneS a).k = 2 <;> by_cases h3 : (oneS a).k = 3 <;> by_cases h4 : (oneS a).k = 4 <;> simp_all
 have h1 := maths_One a
 generalize oneS a = v at hk h1
 obtain ⟨k, n, s⟩ := v
 simp only at hk
 refine r_logic_kinds_4 rfl fun hw => ?_
 clear hw
 rcases hk with rfl | rfl | rfl | rfl | rfl
 all_goals repeat' ((conv => whnf); (first | refine csp (fun h => ?_) (fun h => ?_) | refine cllo (h1) (fun _ => ?_) | refine cllo (logic_whole _) (fun _ => ?_) | (refine sda ?_ ?_; (focus (first | rfl | (simp; done)))) | refine sda ?_ ?_ | refine conk rfl ?_ | refine ldk rfl ?_ | refine mapk (fun x hx => ?_) | exact ⟨rfl, rfl⟩ | refine nilk (fun h => ?_) ?_ | intro hl))
 all_goals conv => whnf
 all_goals rfl
theorem kinds_5 (a : Ar) : Ret Tryz.prog F_logic_kinds_5 [.row false [cA a]] (eV (if (oneS a).k = 4 then whS (oneS a).n else badS 6)) := by
 refine r_logic_kinds_5 rfl fun hw => ?_
 clear hw
 repeat' ((conv => whnf); (first | refine csp (fun h => ?_) (fun h => ?_) | refine cllo (maths_One _) (fun _ => ?_) | refine cllo (logic_whole _) (fun _ => ?_) | refine cllo (value_Bad _) (fun _ => ?_) | (refine sda ?_ ?_; (focus (first | rfl | (simp; done)))) | refine sda ?_ ?_ | refine conk rfl ?_ | refine ldk rfl ?_ | refine mapk (fun x hx => ?_) | exact ⟨rfl, rfl⟩ | refine nilk (fun h => ?_) ?_ | intro hl))
 all_goals conv => whnf
 all_goals try simp only [tz] at *
 ·rw [if_neg h]
 ·rw [if_pos h]
theorem find_4 (a : Ar) : Ret Tryz.prog F_logic_find_4 [.row false [cA a]] (eV (if 0 < (tb (oneS a)).2 then badS (tb (oneS a)).2 else truS (!(tb (oneS a)).1))) := by
 refine r_logic_find_4 rfl fun hw => ?_
 clear hw
 repeat' ((conv => whnf); (first | refine csp (fun h => ?_) (fun h => ?_) | refine cllo (maths_One _) (fun _ => ?_) | refine cllo (ToBool_g _ (oneS_good a)) (fun _ => ?_) | refine cllo (logic_truth _) (fun _ => ?_) | refine cllo (value_Bad _) (fun _ => ?_) | (refine sda ?_ ?_; (focus (first | rfl | (simp; done)))) | refine sda ?_ ?_ | refine conk rfl ?_ | refine ldk rfl ?_ | refine mapk (fun x hx => ?_) | exact ⟨rfl, rfl⟩ | refine nilk (fun h => ?_) ?_ | intro hl))
 all_goals conv => whnf
 all_goals try simp only [tz] at *
 ·rw [if_pos h]
 ·rw [if_neg (by omega)]
theorem constant_r (v : GV) : Ret Tryz.prog F_logic_constant [eV v] (.fn F_logic_constant_1 [] [.elem (cV v)]) := by
 refine r_logic_constant rfl fun hw => ?_
 clear hw
 repeat' ((conv => whnf); (first | refine csp (fun h => ?_) (fun h => ?_) | (refine sda ?_ ?_; (focus (first | rfl | (simp; done)))) | refine sda ?_ ?_ | refine conk rfl ?_ | refine ldk rfl ?_ | refine mapk (fun x hx => ?_) | exact ⟨rfl, rfl⟩ | refine nilk (fun h => ?_) ?_ | intro hl))
 all_goals conv => whnf
theorem constant_1 (v : GV) (l : List (List V)) : Ret Tryz.prog F_logic_constant_1 [.row false l, .elem (cV v)] (eV v) := by
 refine r_logic_constant_1 rfl fun hw => ?_
 clear hw
 repeat' ((conv => whnf); (first | refine csp (fun h => ?_) (fun h => ?_) | (refine sda ?_ ?_; (focus (first | rfl | (simp; done)))) | refine sda ?_ ?_ | refine conk rfl ?_ | refine ldk rfl ?_ | refine mapk (fun x hx => ?_) | exact ⟨rfl, rfl⟩ | refine nilk (fun h => ?_) ?_ | intro hl))
 all_goals conv => whnf
end Go.Proofs.YtllceoncpgebpaaGreatDoor
set_option maxRecDepth 100000
set_option linter.all false
namespace Go.Proofs.YtllceoncpgebpaaGreatDoor
open Ab R
theorem votes_r (f : FuncId) : Ret Tryz.prog F_logic_votes [.fn f [] []] (.fn F_logic_votes_1 [] [.elem [.fn f [] []]]) := by
 refine r_logic_votes rfl fun hw => ?_
 clear hw
 repeat' ((conv => whnf); (first | refine csp (fun h => ?_) (fun h => ?_) | (refine sda ?_ ?_; (focus (first | rfl | (simp; done)))) | refine sda ?_ ?_ | refine conk rfl ?_ | refine ldk rfl ?_ | refine mapk (fun x hx => ?_) | exact ⟨rfl, rfl⟩ | refine nilk (fun h => ?_) ?_ | intro hl))
 all_goals conv => whnf
theorem months_r (b : Bool) : Ret Tryz.prog F_logic_months [.bool b] (.fn F_logic_months_1 [] [.elem [.bool b]]) := by
 refine r_logic_months rfl fun hw => ?_
 clear hw
 repeat' ((conv => whnf); (first | refine csp (fun h => ?_) (fun h => ?_) | (refine sda ?_ ?_; (focus (first | rfl | (simp; done)))) | refine sda ?_ ?_ | refine conk rfl ?_ | refine ldk rfl ?_ | refine mapk (fun x hx => ?_) | exact ⟨rfl, rfl⟩ | refine nilk (fun h => ?_) ?_ | intro hl))
 all_goals conv => whnf
theorem of_0 (g : FuncId) : Ret Tryz.prog F_logic_of [.fn g [] []] (.fn F_logic_of_1 [] [.elem [.fn g [] []]]) := by
 refine r_logic_of rfl fun hw => ?_
 clear hw
 repeat' ((conv => whnf); (first | refine csp (fun h => ?_) (fun h => ?_) | (refine sda ?_ ?_; (focus (first | rfl | (simp; done)))) | refine sda ?_ ?_ | refine conk rfl ?_ | refine ldk rfl ?_ | refine mapk (fun x hx => ?_) | exact ⟨rfl, rfl⟩ | refine nilk (fun h => ?_) ?_ | intro hl))
 all_goals conv => whnf
theorem of_k (g : FuncId) (k : Int) : Ret Tryz.prog F_logic_of [.fn g [] [.elem [.int .i64 k]]] (.fn F_logic_of_1 [] [.elem [.fn g [] [.elem [.int .i64 k]]]]) := by
 refine r_logic_of rfl fun hw => ?_
 clear hw
 repeat' ((conv => whnf); (first | refine csp (fun h => ?_) (fun h => ?_) | (refine sda ?_ ?_; (focus (first | rfl | (simp; done)))) | refine sda ?_ ?_ | refine conk rfl ?_ | refine ldk rfl ?_ | refine mapk (fun x hx => ?_) | exact ⟨rfl, rfl⟩ | refine nilk (fun h => ?_) ?_ | intro hl))
 all_goals conv => whnf
theorem part_r (k : Int) : Ret Tryz.prog F_logic_part [.int .i64 k] (.fn F_logic_of_1 [] [.elem [.fn F_logic_part_1 [] [.elem [.int .i64 k]]]]) := by
 refine r_logic_part rfl fun hw => ?_
 clear hw
 repeat' ((conv => whnf); (first | refine csp (fun h => ?_) (fun h => ?_) | refine cllo (of_k _ _) (fun _ => ?_) | (refine sda ?_ ?_; (focus (first | rfl | (simp; done)))) | refine sda ?_ ?_ | refine conk rfl ?_ | refine ldk rfl ?_ | refine mapk (fun x hx => ?_) | exact ⟨rfl, rfl⟩ | refine nilk (fun h => ?_) ?_ | intro hl))
 all_goals conv => whnf
theorem kinds_ISBLANK : Ret Tryz.prog F_logic_kinds [.str ⟨#[73, 83, 66, 76, 65, 78, 75]⟩] (.fn F_logic_is_1 [] [.elem [.fn F_logic_kind_1 [] [.elem [.int .i64 0]]]]) := by
 refine r_logic_kinds rfl fun hw => ?_
 clear hw
 repeat' ((conv => whnf); (first | refine csp (fun h => ?_) (fun h => ?_) | refine cllo (kind_r _) (fun _ => ?_) | refine cllo (is_0 _) (fun _ => ?_) | (refine sda ?_ ?_; (focus (first | rfl | (simp; done)))) | refine sda ?_ ?_ | refine conk rfl ?_ | refine ldk rfl ?_ | refine mapk (fun x hx => ?_) | exact ⟨rfl, rfl⟩ | refine nilk (fun h => ?_) ?_ | intro hl))
 all_goals conv => whnf
theorem kinds_ISNUMBER : Ret Tryz.prog F_logic_kinds [.str ⟨#[73, 83, 78, 85, 77, 66, 69, 82]⟩] (.fn F_logic_is_1 [] [.elem [.fn F_logic_kind_1 [] [.elem [.int .i64 1]]]]) := by
 refine r_logic_kinds rfl fun hw => ?_
 clear hw
 repeat' ((conv => whnf); (first | refine csp (fun h => ?_) (fun h => ?_) | refine cllo (kind_r _) (fun _ => ?_) | refine cllo (is_0 _) (fun _ => ?_) | (refine sda ?_ ?_; (focus (first | rfl | (simp; done)))) | refine sda ?_ ?_ | refine conk rfl ?_ | refine ldk rfl ?_ | refine mapk (fun x hx => ?_) | exact ⟨rfl, rfl⟩ | refine nilk (fun h => ?_) ?_ | intro hl))
 all_goals conv => whnf
theorem kinds_ISTEXT : Ret Tryz.prog F_logic_kinds [.str ⟨#[73, 83, 84, 69, 88, 84]⟩] (.fn F_logic_is_1 [] [.elem [.fn F_logic_kind_1 [] [.elem [.int .i64 2]]]]) := by
 refine r_logic_kinds rfl fun hw => ?_
 clear hw
 repeat' ((conv => whnf); (first | refine csp (fun h => ?_) (fun h => ?_) | refine cllo (kind_r _) (fun _ => ?_) | refine cllo (is_0 _) (fun _ => ?_) | (refine sda ?_ ?_; (focus (first | rfl | (simp; done)))) | refine sda ?_ ?_ | refine conk rfl ?_ | refine ldk rfl ?_ | refine mapk (fun x hx => ?_) | exact ⟨rfl, rfl⟩ | refine nilk (fun h => ?_) ?_ | intro hl))
 all_goals conv => whnf
theorem kinds_ISLOGICAL : Ret Tryz.prog F_logic_kinds [.str ⟨#[73, 83, 76, 79, 71, 73, 67, 65, 76]⟩] (.fn F_logic_is_1 [] [.elem [.fn F_logic_kind_1 [] [.elem [.int .i64 3]]]]) := by
 refine r_logic_kinds rfl fun hw => ?_
 clear hw
 repeat' ((conv => whnf); (first | refine csp (fun h => ?_) (fun h => ?_) | refine cllo (kind_r _) (fun _ => ?_) | refine cllo (is_0 _) (fun _ => ?_) | (refine sda ?_ ?_; (focus (first | rfl | (simp; done)))) | refine sda ?_ ?_ | refine conk rfl ?_ | refine ldk rfl ?_ | refine mapk (fun x hx => ?_) | exact ⟨rfl, rfl⟩ | refine nilk (fun h => ?_) ?_ | intro hl))
 all_goals conv => whnf
theorem kinds_ISERROR : Ret Tryz.prog F_logic_kinds [.str ⟨#[73, 83, 69, 82, 82, 79, 82]⟩] (.fn F_logic_is_1 [] [.elem [.fn F_logic_kind_1 [] [.elem [.int .i64 4]]]]) := by
 refine r_logic_kinds rfl fun hw => ?_
 clear hw
 repeat' ((conv => whnf); (first | refine csp (fun h => ?_) (fun h => ?_) | refine cllo (kind_r _) (fun _ => ?_) | refine cllo (is_0 _) (fun _ => ?_) | (refine sda ?_ ?_; (focus (first | rfl | (simp; done)))) | refine sda ?_ ?_ | refine conk rfl ?_ | refine ldk rfl ?_ | refine mapk (fun x hx => ?_) | exact ⟨rfl, rfl⟩ | refine nilk (fun h => ?_) ?_ | intro hl))
 all_goals conv => whnf
theorem kinds_ISNONTEXT : Ret Tryz.prog F_logic_kinds [.str ⟨#[73, 83, 78, 79, 78, 84, 69, 88, 84]⟩] (.fn F_logic_is_1 [] [.elem [.fn F_logic_kinds_1 [] []]]) := by
 refine r_logic_kinds rfl fun hw => ?_
 clear hw
 repeat' ((conv => whnf); (first | refine csp (fun h => ?_) (fun h => ?_) | refine cllo (kind_r _) (fun _ => ?_) | refine cllo (is_0 _) (fun _ => ?_) | (refine sda ?_ ?_; (focus (first | rfl | (simp; done)))) | refine sda ?_ ?_ | refine conk rfl ?_ | refine ldk rfl ?_ | refine mapk (fun x hx => ?_) | exact ⟨rfl, rfl⟩ | refine nilk (fun h => ?_) ?_ | intro hl))
 all_goals conv => whnf
theorem kinds_ISNA : Ret Tryz.prog F_logic_kinds [.str ⟨#[73, 83, 78, 65]⟩] (.fn F_logic_is_1 [] [.elem [.fn F_logic_kinds_2 [] []]]) := by
 refine r_logic_kinds rfl fun hw => ?_
 clear hw
 repeat' ((conv => whnf); (first | refine csp (fun h => ?_) (fun h => ?_) | refine cllo (kind_r _) (fun _ => ?_) | refine cllo (is_0 _) (fun _ => ?_) | (refine sda ?_ ?_; (focus (first | rfl | (simp; done)))) | refine sda ?_ ?_ | refine conk rfl ?_ | refine ldk rfl ?_ | refine mapk (fun x hx => ?_) | exact ⟨rfl, rfl⟩ | refine nilk (fun h => ?_) ?_ | intro hl))
 all_goals conv => whnf
theorem kinds_ISERR : Ret Tryz.prog F_logic_kinds [.str ⟨#[73, 83, 69, 82, 82]⟩] (.fn F_logic_is_1 [] [.elem [.fn F_logic_kinds_3 [] []]]) := by
 refine r_logic_kinds rfl fun hw => ?_
 clear hw
 repeat' ((conv => whnf); (first | refine csp (fun h => ?_) (fun h => ?_) | refine cllo (kind_r _) (fun _ => ?_) | refine cllo (is_0 _) (fun _ => ?_) | (refine sda ?_ ?_; (focus (first | rfl | (simp; done)))) | refine sda ?_ ?_ | refine conk rfl ?_ | refine ldk rfl ?_ | refine mapk (fun x hx => ?_) | exact ⟨rfl, rfl⟩ | refine nilk (fun h => ?_) ?_ | intro hl))
 all_goals conv => whnf
theorem kinds_TYPE : Ret Tryz.prog F_logic_kinds [.str ⟨#[84, 89, 80, 69]⟩] (.fn F_logic_kinds_4 [] []) := by
 refine r_logic_kinds rfl fun hw => ?_
 clear hw
 repeat' ((conv => whnf); (first | refine csp (fun h => ?_) (fun h => ?_) | refine cllo (kind_r _) (fun _ => ?_) | refine cllo (is_0 _) (fun _ => ?_) | (refine sda ?_ ?_; (focus (first | rfl | (simp; done)))) | refine sda ?_ ?_ | refine conk rfl ?_ | refine ldk rfl ?_ | refine mapk (fun x hx => ?_) | exact ⟨rfl, rfl⟩ | refine nilk (fun h => ?_) ?_ | intro hl))
 all_goals conv => whnf
theorem kinds_ERRORTYPE : Ret Tryz.prog F_logic_kinds [.str ⟨#[69, 82, 82, 79, 82, 84, 89, 80, 69]⟩] (.fn F_logic_kinds_5 [] []) := by
 refine r_logic_kinds rfl fun hw => ?_
 clear hw
 repeat' ((conv => whnf); (first | refine csp (fun h => ?_) (fun h => ?_) | refine cllo (kind_r _) (fun _ => ?_) | refine cllo (is_0 _) (fun _ => ?_) | (refine sda ?_ ?_; (focus (first | rfl | (simp; done)))) | refine sda ?_ ?_ | refine conk rfl ?_ | refine ldk rfl ?_ | refine mapk (fun x hx => ?_) | exact ⟨rfl, rfl⟩ | refine nilk (fun h => ?_) ?_ | intro hl))
 all_goals conv => whnf
theorem kinds_no_YEAR : Ret Tryz.prog F_logic_kinds [.str ⟨#[89, 69, 65, 82]⟩] .nilFn := by
 refine r_logic_kinds rfl fun hw => ?_
 clear hw
 repeat' ((conv => whnf); (first | refine csp (fun h => ?_) (fun h => ?_) | (refine sda ?_ ?_; (focus (first | rfl | (simp; done)))) | refine sda ?_ ?_ | refine conk rfl ?_ | refine ldk rfl ?_ | refine mapk (fun x hx => ?_) | exact ⟨rfl, rfl⟩ | refine nilk (fun h => ?_) ?_ | intro hl))
 all_goals conv => whnf
theorem days_YEAR : Ret Tryz.prog F_logic_days [.str ⟨#[89, 69, 65, 82]⟩] (.fn F_logic_of_1 [] [.elem [.fn F_logic_part_1 [] [.elem [.int .i64 0]]]]) := by
 refine r_logic_days rfl fun hw => ?_
 clear hw
 repeat' ((conv => whnf); (first | refine csp (fun h => ?_) (fun h => ?_) | refine cllo (part_r _) (fun _ => ?_) | refine cllo (of_0 _) (fun _ => ?_) | (refine sda ?_ ?_; (focus (first | rfl | (simp; done)))) | refine sda ?_ ?_ | refine conk rfl ?_ | refine ldk rfl ?_ | refine mapk (fun x hx => ?_) | exact ⟨rfl, rfl⟩ | refine nilk (fun h => ?_) ?_ | intro hl))
 all_goals conv => whnf
theorem kinds_no_MONTH : Ret Tryz.prog F_logic_kinds [.str ⟨#[77, 79, 78, 84, 72]⟩] .nilFn := by
 refine r_logic_kinds rfl fun hw => ?_
 clear hw
 repeat' ((conv => whnf); (first | refine csp (fun h => ?_) (fun h => ?_) | (refine sda ?_ ?_; (focus (first | rfl | (simp; done)))) | refine sda ?_ ?_ | refine conk rfl ?_ | refine ldk rfl ?_ | refine mapk (fun x hx => ?_) | exact ⟨rfl, rfl⟩ | refine nilk (fun h => ?_) ?_ | intro hl))
 all_goals conv => whnf
theorem days_MONTH : Ret Tryz.prog F_logic_days [.str ⟨#[77, 79, 78, 84, 72]⟩] (.fn F_logic_of_1 [] [.elem [.fn F_logic_part_1 [] [.elem [.int .i64 1]]]]) := by
 refine r_logic_days rfl fun hw => ?_
 clear hw
 repeat' ((conv => whnf); (first | refine csp (fun h => ?_) (fun h => ?_) | refine cllo (part_r _) (fun _ => ?_) | refine cllo (of_0 _) (fun _ => ?_) | (refine sda ?_ ?_; (focus (first | rfl | (simp; done)))) | refine sda ?_ ?_ | refine conk rfl ?_ | refine ldk rfl ?_ | refine mapk (fun x hx => ?_) | exact ⟨rfl, rfl⟩ | refine nilk (fun h => ?_) ?_ | intro hl))
 all_goals conv => whnf
theorem kinds_no_DAY : Ret Tryz.prog F_logic_kinds [.str ⟨#[68, 65, 89]⟩] .nilFn := by
 refine r_logic_kinds rfl fun hw => ?_
 clear hw
 repeat' ((conv => whnf); (first | refine csp (fun h => ?_) (fun h => ?_) | (refine sda ?_ ?_; (focus (first | rfl | (simp; done)))) | refine sda ?_ ?_ | refine conk rfl ?_ | refine ldk rfl ?_ | refine mapk (fun x hx => ?_) | exact ⟨rfl, rfl⟩ | refine nilk (fun h => ?_) ?_ | intro hl))
 all_goals conv => whnf
theorem days_DAY : Ret Tryz.prog F_logic_days [.str ⟨#[68, 65, 89]⟩] (.fn F_logic_of_1 [] [.elem [.fn F_logic_part_1 [] [.elem [.int .i64 2]]]]) := by
 refine r_logic_days rfl fun hw => ?_
 clear hw
 repeat' ((conv => whnf); (first | refine csp (fun h => ?_) (fun h => ?_) | refine cllo (part_r _) (fun _ => ?_) | refine cllo (of_0 _) (fun _ => ?_) | (refine sda ?_ ?_; (focus (first | rfl | (simp; done)))) | refine sda ?_ ?_ | refine conk rfl ?_ | refine ldk rfl ?_ | refine mapk (fun x hx => ?_) | exact ⟨rfl, rfl⟩ | refine nilk (fun h => ?_) ?_ | intro hl))
 all_goals conv => whnf
theorem kinds_no_WEEKDAY : Ret Tryz.prog F_logic_kinds [.str ⟨#[87, 69, 69, 75, 68, 65, 89]⟩] .nilFn := by
 refine r_logic_kinds rfl fun hw => ?_
 clear hw
 repeat' ((conv => whnf); (first | refine csp (fun h => ?_) (fun h => ?_) | (refine sda ?_ ?_; (focus (first | rfl | (simp; done)))) | refine sda ?_ ?_ | refine conk rfl ?_ | refine ldk rfl ?_ | refine mapk (fun x hx => ?_) | exact ⟨rfl, rfl⟩ | refine nilk (fun h => ?_) ?_ | intro hl))
 all_goals conv => whnf
theorem days_WEEKDAY : Ret Tryz.prog F_logic_days [.str ⟨#[87, 69, 69, 75, 68, 65, 89]⟩] (.fn F_logic_of_1 [] [.elem [.fn F_logic_days_1 [] []]]) := by
 refine r_logic_days rfl fun hw => ?_
 clear hw
 repeat' ((conv => whnf); (first | refine csp (fun h => ?_) (fun h => ?_) | refine cllo (part_r _) (fun _ => ?_) | refine cllo (of_0 _) (fun _ => ?_) | (refine sda ?_ ?_; (focus (first | rfl | (simp; done)))) | refine sda ?_ ?_ | refine conk rfl ?_ | refine ldk rfl ?_ | refine mapk (fun x hx => ?_) | exact ⟨rfl, rfl⟩ | refine nilk (fun h => ?_) ?_ | intro hl))
 all_goals conv => whnf
theorem kinds_no_WEEKNUM : Ret Tryz.prog F_logic_kinds [.str ⟨#[87, 69, 69, 75, 78, 85, 77]⟩] .nilFn := by
 refine r_logic_kinds rfl fun hw => ?_
 clear hw
 repeat' ((conv => whnf); (first | refine csp (fun h => ?_) (fun h => ?_) | (refine sda ?_ ?_; (focus (first | rfl | (simp; done)))) | refine sda ?_ ?_ | refine conk rfl ?_ | refine ldk rfl ?_ | refine mapk (fun x hx => ?_) | exact ⟨rfl, rfl⟩ | refine nilk (fun h => ?_) ?_ | intro hl))
 all_goals conv => whnf
theorem days_WEEKNUM : Ret Tryz.prog F_logic_days [.str ⟨#[87, 69, 69, 75, 78, 85, 77]⟩] (.fn F_logic_of_1 [] [.elem [.fn F_logic_days_2 [] []]]) := by
 refine r_logic_days rfl fun hw => ?_
 clear hw
 repeat' ((conv => whnf); (first | refine csp (fun h => ?_) (fun h => ?_) | refine cllo (part_r _) (fun _ => ?_) | refine cllo (of_0 _) (fun _ => ?_) | (refine sda ?_ ?_; (focus (first | rfl | (simp; done)))) | refine sda ?_ ?_ | refine conk rfl ?_ | refine ldk rfl ?_ | refine mapk (fun x hx => ?_) | exact ⟨rfl, rfl⟩ | refine nilk (fun h => ?_) ?_ | intro hl))
 all_goals conv => whnf
theorem kinds_no_DATETEXT : Ret Tryz.prog F_logic_kinds [.str ⟨#[68, 65, 84, 69, 84, 69, 88, 84]⟩] .nilFn := by
 refine r_logic_kinds rfl fun hw => ?_
 clear hw
 repeat' ((conv => whnf); (first | refine csp (fun h => ?_) (fun h => ?_) | (refine sda ?_ ?_; (focus (first | rfl | (simp; done)))) | refine sda ?_ ?_ | refine conk rfl ?_ | refine ldk rfl ?_ | refine mapk (fun x hx => ?_) | exact ⟨rfl, rfl⟩ | refine nilk (fun h => ?_) ?_ | intro hl))
 all_goals conv => whnf
theorem days_DATETEXT : Ret Tryz.prog F_logic_days [.str ⟨#[68, 65, 84, 69, 84, 69, 88, 84]⟩] (.fn F_logic_of_1 [] [.elem [.fn F_logic_days_3 [] []]]) := by
 refine r_logic_days rfl fun hw => ?_
 clear hw
 repeat' ((conv => whnf); (first | refine csp (fun h => ?_) (fun h => ?_) | refine cllo (part_r _) (fun _ => ?_) | refine cllo (of_0 _) (fun _ => ?_) | (refine sda ?_ ?_; (focus (first | rfl | (simp; done)))) | refine sda ?_ ?_ | refine conk rfl ?_ | refine ldk rfl ?_ | refine mapk (fun x hx => ?_) | exact ⟨rfl, rfl⟩ | refine nilk (fun h => ?_) ?_ | intro hl))
 all_goals conv => whnf
theorem fnd_AND : Ret Tryz.prog F_logic_find [.str ⟨#[65, 78, 68]⟩] (.tup [.fn F_logic_votes_1 [] [.elem [.fn F_logic_find_1 [] []]], .int .i64 (-1)]) := by
 refine r_logic_find rfl fun hw => ?_
 clear hw
 repeat' ((conv => whnf); (first | refine csp (fun h => ?_) (fun h => ?_) | refine cllo (votes_r _) (fun _ => ?_) | refine cllo (months_r _) (fun _ => ?_) | refine cllo (constant_r _) (fun _ => ?_) | refine cllo (logic_truth _) (fun _ => ?_) | refine cllo (value_Bad _) (fun _ => ?_) | (refine sda ?_ ?_; (focus (first | rfl | (simp; done)))) | refine sda ?_ ?_ | refine conk rfl ?_ | refine ldk rfl ?_ | refine mapk (fun x hx => ?_) | exact ⟨rfl, rfl⟩ | refine nilk (fun h => ?_) ?_ | intro hl))
 all_goals conv => whnf
theorem fnd_OR : Ret Tryz.prog F_logic_find [.str ⟨#[79, 82]⟩] (.tup [.fn F_logic_votes_1 [] [.elem [.fn F_logic_find_2 [] []]], .int .i64 (-1)]) := by
 refine r_logic_find rfl fun hw => ?_
 clear hw
 repeat' ((conv => whnf); (first | refine csp (fun h => ?_) (fun h => ?_) | refine cllo (votes_r _) (fun _ => ?_) | refine cllo (months_r _) (fun _ => ?_) | refine cllo (constant_r _) (fun _ => ?_) | refine cllo (logic_truth _) (fun _ => ?_) | refine cllo (value_Bad _) (fun _ => ?_) | (refine sda ?_ ?_; (focus (first | rfl | (simp; done)))) | refine sda ?_ ?_ | refine conk rfl ?_ | refine ldk rfl ?_ | refine mapk (fun x hx => ?_) | exact ⟨rfl, rfl⟩ | refine nilk (fun h => ?_) ?_ | intro hl))
 all_goals conv => whnf
theorem fnd_XOR : Ret Tryz.prog F_logic_find [.str ⟨#[88, 79, 82]⟩] (.tup [.fn F_logic_votes_1 [] [.elem [.fn F_logic_find_3 [] []]], .int .i64 (-1)]) := by
 refine r_logic_find rfl fun hw => ?_
 clear hw
 repeat' ((conv => whnf); (first | refine csp (fun h => ?_) (fun h => ?_) | refine cllo (votes_r _) (fun _ => ?_) | refine cllo (months_r _) (fun _ => ?_) | refine cllo (constant_r _) (fun _ => ?_) | refine cllo (logic_truth _) (fun _ => ?_) | refine cllo (value_Bad _) (fun _ => ?_) | (refine sda ?_ ?_; (focus (first | rfl | (simp; done)))) | refine sda ?_ ?_ | refine conk rfl ?_ | refine ldk rfl ?_ | refine mapk (fun x hx => ?_) | exact ⟨rfl, rfl⟩ | refine nilk (fun h => ?_) ?_ | intro hl))
 all_goals conv => whnf
theorem fnd_NOT : Ret Tryz.prog F_logic_find [.str ⟨#[78, 79, 84]⟩] (.tup [.fn F_logic_find_4 [] [], .int .i64 (1)]) := by
 refine r_logic_find rfl fun hw => ?_
 clear hw
 repeat' ((conv => whnf); (first | refine csp (fun h => ?_) (fun h => ?_) | refine cllo (votes_r _) (fun _ => ?_) | refine cllo (months_r _) (fun _ => ?_) | refine cllo (constant_r _) (fun _ => ?_) | refine cllo (logic_truth _) (fun _ => ?_) | refine cllo (value_Bad _) (fun _ => ?_) | (refine sda ?_ ?_; (focus (first | rfl | (simp; done)))) | refine sda ?_ ?_ | refine conk rfl ?_ | refine ldk rfl ?_ | refine mapk (fun x hx => ?_) | exact ⟨rfl, rfl⟩ | refine nilk (fun h => ?_) ?_ | intro hl))
 all_goals conv => whnf
theorem fnd_TRUE : Ret Tryz.prog F_logic_find [.str ⟨#[84, 82, 85, 69]⟩] (.tup [.fn F_logic_constant_1 [] [.elem (cV (truS true))], .int .i64 (0)]) := by
 refine r_logic_find rfl fun hw => ?_
 clear hw
 repeat' ((conv => whnf); (first | refine csp (fun h => ?_) (fun h => ?_) | refine cllo (votes_r _) (fun _ => ?_) | refine cllo (months_r _) (fun _ => ?_) | refine cllo (constant_r _) (fun _ => ?_) | refine cllo (logic_truth _) (fun _ => ?_) | refine cllo (value_Bad _) (fun _ => ?_) | (refine sda ?_ ?_; (focus (first | rfl | (simp; done)))) | refine sda ?_ ?_ | refine conk rfl ?_ | refine ldk rfl ?_ | refine mapk (fun x hx => ?_) | exact ⟨rfl, rfl⟩ | refine nilk (fun h => ?_) ?_ | intro hl))
 all_goals conv => whnf
theorem fnd_FALSE : Ret Tryz.prog F_logic_find [.str ⟨#[70, 65, 76, 83, 69]⟩] (.tup [.fn F_logic_constant_1 [] [.elem (cV (truS false))], .int .i64 (0)]) := by
 refine r_logic_find rfl fun hw => ?_
 clear hw
 repeat' ((conv => whnf); (first | refine csp (fun h => ?_) (fun h => ?_) | refine cllo (votes_r _) (fun _ => ?_) | refine cllo (months_r _) (fun _ => ?_) | refine cllo (constant_r _) (fun _ => ?_) | refine cllo (logic_truth _) (fun _ => ?_) | refine cllo (value_Bad _) (fun _ => ?_) | (refine sda ?_ ?_; (focus (first | rfl | (simp; done)))) | refine sda ?_ ?_ | refine conk rfl ?_ | refine ldk rfl ?_ | refine mapk (fun x hx => ?_) | exact ⟨rfl, rfl⟩ | refine nilk (fun h => ?_) ?_ | intro hl))
 all_goals conv => whnf
theorem fnd_NA : Ret Tryz.prog F_logic_find [.str ⟨#[78, 65]⟩] (.tup [.fn F_logic_constant_1 [] [.elem (cV (badS 6))], .int .i64 (0)]) := by
 refine r_logic_find rfl fun hw => ?_
 clear hw
 repeat' ((conv => whnf); (first | refine csp (fun h => ?_) (fun h => ?_) | refine cllo (votes_r _) (fun _ => ?_) | refine cllo (months_r _) (fun _ => ?_) | refine cllo (constant_r _) (fun _ => ?_) | refine cllo (logic_truth _) (fun _ => ?_) | refine cllo (value_Bad _) (fun _ => ?_) | (refine sda ?_ ?_; (focus (first | rfl | (simp; done)))) | refine sda ?_ ?_ | refine conk rfl ?_ | refine ldk rfl ?_ | refine mapk (fun x hx => ?_) | exact ⟨rfl, rfl⟩ | refine nilk (fun h => ?_) ?_ | intro hl))
 all_goals conv => whnf
theorem fnd_DATE : Ret Tryz.prog F_logic_find [.str ⟨#[68, 65, 84, 69]⟩] (.tup [.fn F_logic_find_5 [] [], .int .i64 (3)]) := by
 refine r_logic_find rfl fun hw => ?_
 clear hw
 repeat' ((conv => whnf); (first | refine csp (fun h => ?_) (fun h => ?_) | refine cllo (votes_r _) (fun _ => ?_) | refine cllo (months_r _) (fun _ => ?_) | refine cllo (constant_r _) (fun _ => ?_) | refine cllo (logic_truth _) (fun _ => ?_) | refine cllo (value_Bad _) (fun _ => ?_) | (refine sda ?_ ?_; (focus (first | rfl | (simp; done)))) | refine sda ?_ ?_ | refine conk rfl ?_ | refine ldk rfl ?_ | refine mapk (fun x hx => ?_) | exact ⟨rfl, rfl⟩ | refine nilk (fun h => ?_) ?_ | intro hl))
 all_goals conv => whnf
theorem fnd_EDATE : Ret Tryz.prog F_logic_find [.str ⟨#[69, 68, 65, 84, 69]⟩] (.tup [.fn F_logic_months_1 [] [.elem [.bool false]], .int .i64 (2)]) := by
 refine r_logic_find rfl fun hw => ?_
 clear hw
 repeat' ((conv => whnf); (first | refine csp (fun h => ?_) (fun h => ?_) | refine cllo (votes_r _) (fun _ => ?_) | refine cllo (months_r _) (fun _ => ?_) | refine cllo (constant_r _) (fun _ => ?_) | refine cllo (logic_truth _) (fun _ => ?_) | refine cllo (value_Bad _) (fun _ => ?_) | (refine sda ?_ ?_; (focus (first | rfl | (simp; done)))) | refine sda ?_ ?_ | refine conk rfl ?_ | refine ldk rfl ?_ | refine mapk (fun x hx => ?_) | exact ⟨rfl, rfl⟩ | refine nilk (fun h => ?_) ?_ | intro hl))
 all_goals conv => whnf
theorem fnd_EOMONTH : Ret Tryz.prog F_logic_find [.str ⟨#[69, 79, 77, 79, 78, 84, 72]⟩] (.tup [.fn F_logic_months_1 [] [.elem [.bool true]], .int .i64 (2)]) := by
 refine r_logic_find rfl fun hw => ?_
 clear hw
 repeat' ((conv => whnf); (first | refine csp (fun h => ?_) (fun h => ?_) | refine cllo (votes_r _) (fun _ => ?_) | refine cllo (months_r _) (fun _ => ?_) | refine cllo (constant_r _) (fun _ => ?_) | refine cllo (logic_truth _) (fun _ => ?_) | refine cllo (value_Bad _) (fun _ => ?_) | (refine sda ?_ ?_; (focus (first | rfl | (simp; done)))) | refine sda ?_ ?_ | refine conk rfl ?_ | refine ldk rfl ?_ | refine mapk (fun x hx => ?_) | exact ⟨rfl, rfl⟩ | refine nilk (fun h => ?_) ?_ | intro hl))
 all_goals conv => whnf
theorem fnd_DAYS : Ret Tryz.prog F_logic_find [.str ⟨#[68, 65, 89, 83]⟩] (.tup [.fn F_logic_find_6 [] [], .int .i64 (2)]) := by
 refine r_logic_find rfl fun hw => ?_
 clear hw
 repeat' ((conv => whnf); (first | refine csp (fun h => ?_) (fun h => ?_) | refine cllo (votes_r _) (fun _ => ?_) | refine cllo (months_r _) (fun _ => ?_) | refine cllo (constant_r _) (fun _ => ?_) | refine cllo (logic_truth _) (fun _ => ?_) | refine cllo (value_Bad _) (fun _ => ?_) | (refine sda ?_ ?_; (focus (first | rfl | (simp; done)))) | refine sda ?_ ?_ | refine conk rfl ?_ | refine ldk rfl ?_ | refine mapk (fun x hx => ?_) | exact ⟨rfl, rfl⟩ | refine nilk (fun h => ?_) ?_ | intro hl))
 all_goals conv => whnf
theorem fnd_DATEVALUE : Ret Tryz.prog F_logic_find [.str ⟨#[68, 65, 84, 69, 86, 65, 76, 85, 69]⟩] (.tup [.fn F_logic_find_7 [] [], .int .i64 (1)]) := by
 refine r_logic_find rfl fun hw => ?_
 clear hw
 repeat' ((conv => whnf); (first | refine csp (fun h => ?_) (fun h => ?_) | refine cllo (votes_r _) (fun _ => ?_) | refine cllo (months_r _) (fun _ => ?_) | refine cllo (constant_r _) (fun _ => ?_) | refine cllo (logic_truth _) (fun _ => ?_) | refine cllo (value_Bad _) (fun _ => ?_) | (refine sda ?_ ?_; (focus (first | rfl | (simp; done)))) | refine sda ?_ ?_ | refine conk rfl ?_ | refine ldk rfl ?_ | refine mapk (fun x hx => ?_) | exact ⟨rfl, rfl⟩ | refine nilk (fun h => ?_) ?_ | intro hl))
 all_goals conv => whnf
theorem fnd_ISBLANK : Ret Tryz.prog F_logic_find [.str ⟨#[73, 83, 66, 76, 65, 78, 75]⟩] (.tup [.fn F_logic_is_1 [] [.elem [.fn F_logic_kind_1 [] [.elem [.int .i64 0]]]], .int .i64 (1)]) := by
 refine r_logic_find rfl fun hw => ?_
 clear hw
 repeat' ((conv => whnf); (first | refine csp (fun h => ?_) (fun h => ?_) | refine cllo (kinds_ISBLANK) (fun _ => ?_) | (refine sda ?_ ?_; (focus (first | rfl | (simp; done)))) | refine sda ?_ ?_ | refine conk rfl ?_ | refine ldk rfl ?_ | refine mapk (fun x hx => ?_) | exact ⟨rfl, rfl⟩ | refine nilk (fun h => ?_) ?_ | intro hl))
 all_goals conv => whnf
theorem fnd_ISNUMBER : Ret Tryz.prog F_logic_find [.str ⟨#[73, 83, 78, 85, 77, 66, 69, 82]⟩] (.tup [.fn F_logic_is_1 [] [.elem [.fn F_logic_kind_1 [] [.elem [.int .i64 1]]]], .int .i64 (1)]) := by
 refine r_logic_find rfl fun hw => ?_
 clear hw
 repeat' ((conv => whnf); (first | refine csp (fun h => ?_) (fun h => ?_) | refine cllo (kinds_ISNUMBER) (fun _ => ?_) | (refine sda ?_ ?_; (focus (first | rfl | (simp; done)))) | refine sda ?_ ?_ | refine conk rfl ?_ | refine ldk rfl ?_ | refine mapk (fun x hx => ?_) | exact ⟨rfl, rfl⟩ | refine nilk (fun h => ?_) ?_ | intro hl))
 all_goals conv => whnf
theorem fnd_ISTEXT : Ret Tryz.prog F_logic_find [.str ⟨#[73, 83, 84, 69, 88, 84]⟩] (.tup [.fn F_logic_is_1 [] [.elem [.fn F_logic_kind_1 [] [.elem [.int .i64 2]]]], .int .i64 (1)]) := by
 refine r_logic_find rfl fun hw => ?_
 clear hw
 repeat' ((conv => whnf); (first | refine csp (fun h => ?_) (fun h => ?_) | refine cllo (kinds_ISTEXT) (fun _ => ?_) | (refine sda ?_ ?_; (focus (first | rfl | (simp; done)))) | refine sda ?_ ?_ | refine conk rfl ?_ | refine ldk rfl ?_ | refine mapk (fun x hx => ?_) | exact ⟨rfl, rfl⟩ | refine nilk (fun h => ?_) ?_ | intro hl))
 all_goals conv => whnf
theorem fnd_ISLOGICAL : Ret Tryz.prog F_logic_find [.str ⟨#[73, 83, 76, 79, 71, 73, 67, 65, 76]⟩] (.tup [.fn F_logic_is_1 [] [.elem [.fn F_logic_kind_1 [] [.elem [.int .i64 3]]]], .int .i64 (1)]) := by
 refine r_logic_find rfl fun hw => ?_
 clear hw
 repeat' ((conv => whnf); (first | refine csp (fun h => ?_) (fun h => ?_) | refine cllo (kinds_ISLOGICAL) (fun _ => ?_) | (refine sda ?_ ?_; (focus (first | rfl | (simp; done)))) | refine sda ?_ ?_ | refine conk rfl ?_ | refine ldk rfl ?_ | refine mapk (fun x hx => ?_) | exact ⟨rfl, rfl⟩ | refine nilk (fun h => ?_) ?_ | intro hl))
 all_goals conv => whnf
theorem fnd_ISERROR : Ret Tryz.prog F_logic_find [.str ⟨#[73, 83, 69, 82, 82, 79, 82]⟩] (.tup [.fn F_logic_is_1 [] [.elem [.fn F_logic_kind_1 [] [.elem [.int .i64 4]]]], .int .i64 (1)]) := by
 refine r_logic_find rfl fun hw => ?_
 clear hw
 repeat' ((conv => whnf); (first | refine csp (fun h => ?_) (fun h => ?_) | refine cllo (kinds_ISERROR) (fun _ => ?_) | (refine sda ?_ ?_; (focus (first | rfl | (simp; done)))) | refine sda ?_ ?_ | refine conk rfl ?_ | refine ldk rfl ?_ | refine mapk (fun x hx => ?_) | exact ⟨rfl, rfl⟩ | refine nilk (fun h => ?_) ?_ | intro hl))
 all_goals conv => whnf
theorem fnd_ISNONTEXT : Ret Tryz.prog F_logic_find [.str ⟨#[73, 83, 78, 79, 78, 84, 69, 88, 84]⟩] (.tup [.fn F_logic_is_1 [] [.elem [.fn F_logic_kinds_1 [] []]], .int .i64 (1)]) := by
 refine r_logic_find rfl fun hw => ?_
 clear hw
 repeat' ((conv => whnf); (first | refine csp (fun h => ?_) (fun h => ?_) | refine cllo (kinds_ISNONTEXT) (fun _ => ?_) | (refine sda ?_ ?_; (focus (first | rfl | (simp; done)))) | refine sda ?_ ?_ | refine conk rfl ?_ | refine ldk rfl ?_ | refine mapk (fun x hx => ?_) | exact ⟨rfl, rfl⟩ | refine nilk (fun h => ?_) ?_ | intro hl))
 all_goals conv => whnf
theorem fnd_ISNA : Ret Tryz.prog F_logic_find [.str ⟨#[73, 83, 78, 65]⟩] (.tup [.fn F_logic_is_1 [] [.elem [.fn F_logic_kinds_2 [] []]], .int .i64 (1)]) := by
 refine r_logic_find rfl fun hw => ?_
 clear hw
 repeat' ((conv => whnf); (first | refine csp (fun h => ?_) (fun h => ?_) | refine cllo (kinds_ISNA) (fun _ => ?_) | (refine sda ?_ ?_; (focus (first | rfl | (simp; done)))) | refine sda ?_ ?_ | refine conk rfl ?_ | refine ldk rfl ?_ | refine mapk (fun x hx => ?_) | exact ⟨rfl, rfl⟩ | refine nilk (fun h => ?_) ?_ | intro hl))
 all_goals conv => whnf
theorem fnd_ISERR : Ret Tryz.prog F_logic_find [.str ⟨#[73, 83, 69, 82, 82]⟩] (.tup [.fn F_logic_is_1 [] [.elem [.fn F_logic_kinds_3 [] []]], .int .i64 (1)]) := by
 refine r_logic_find rfl fun hw => ?_
 clear hw
 repeat' ((conv => whnf); (first | refine csp (fun h => ?_) (fun h => ?_) | refine cllo (kinds_ISERR) (fun _ => ?_) | (refine sda ?_ ?_; (focus (first | rfl | (simp; done)))) | refine sda ?_ ?_ | refine conk rfl ?_ | refine ldk rfl ?_ | refine mapk (fun x hx => ?_) | exact ⟨rfl, rfl⟩ | refine nilk (fun h => ?_) ?_ | intro hl))
 all_goals conv => whnf
theorem fnd_TYPE : Ret Tryz.prog F_logic_find [.str ⟨#[84, 89, 80, 69]⟩] (.tup [.fn F_logic_kinds_4 [] [], .int .i64 (1)]) := by
 refine r_logic_find rfl fun hw => ?_
 clear hw
 repeat' ((conv => whnf); (first | refine csp (fun h => ?_) (fun h => ?_) | refine cllo (kinds_TYPE) (fun _ => ?_) | (refine sda ?_ ?_; (focus (first | rfl | (simp; done)))) | refine sda ?_ ?_ | refine conk rfl ?_ | refine ldk rfl ?_ | refine mapk (fun x hx => ?_) | exact ⟨rfl, rfl⟩ | refine nilk (fun h => ?_) ?_ | intro hl))
 all_goals conv => whnf
theorem fnd_ERRORTYPE : Ret Tryz.prog F_logic_find [.str ⟨#[69, 82, 82, 79, 82, 84, 89, 80, 69]⟩] (.tup [.fn F_logic_kinds_5 [] [], .int .i64 (1)]) := by
 refine r_logic_find rfl fun hw => ?_
 clear hw
 repeat' ((conv => whnf); (first | refine csp (fun h => ?_) (fun h => ?_) | refine cllo (kinds_ERRORTYPE) (fun _ => ?_) | (refine sda ?_ ?_; (focus (first | rfl | (simp; done)))) | refine sda ?_ ?_ | refine conk rfl ?_ | refine ldk rfl ?_ | refine mapk (fun x hx => ?_) | exact ⟨rfl, rfl⟩ | refine nilk (fun h => ?_) ?_ | intro hl))
 all_goals conv => whnf
theorem fnd_YEAR : Ret Tryz.prog F_logic_find [.str ⟨#[89, 69, 65, 82]⟩] (.tup [.fn F_logic_of_1 [] [.elem [.fn F_logic_part_1 [] [.elem [.int .i64 0]]]], .int .i64 (1)]) := by
 refine r_logic_find rfl fun hw => ?_
 clear hw
 repeat' ((conv => whnf); (first | refine csp (fun h => ?_) (fun h => ?_) | refine cllo (kinds_no_YEAR) (fun _ => ?_) | refine cllo (days_YEAR) (fun _ => ?_) | (refine sda ?_ ?_; (focus (first | rfl | (simp; done)))) | refine sda ?_ ?_ | refine conk rfl ?_ | refine ldk rfl ?_ | refine mapk (fun x hx => ?_) | exact ⟨rfl, rfl⟩ | refine nilk (fun h => ?_) ?_ | intro hl))
 all_goals conv => whnf
theorem fnd_MONTH : Ret Tryz.prog F_logic_find [.str ⟨#[77, 79, 78, 84, 72]⟩] (.tup [.fn F_logic_of_1 [] [.elem [.fn F_logic_part_1 [] [.elem [.int .i64 1]]]], .int .i64 (1)]) := by
 refine r_logic_find rfl fun hw => ?_
 clear hw
 repeat' ((conv => whnf); (first | refine csp (fun h => ?_) (fun h => ?_) | refine cllo (kinds_no_MONTH) (fun _ => ?_) | refine cllo (days_MONTH) (fun _ => ?_) | (refine sda ?_ ?_; (focus (first | rfl | (simp; done)))) | refine sda ?_ ?_ | refine conk rfl ?_ | refine ldk rfl ?_ | refine mapk (fun x hx => ?_) | exact ⟨rfl, rfl⟩ | refine nilk (fun h => ?_) ?_ | intro hl))
 all_goals conv => whnf
theorem fnd_DAY : Ret Tryz.prog F_logic_find [.str ⟨#[68, 65, 89]⟩] (.tup [.fn F_logic_of_1 [] [.elem [.fn F_logic_part_1 [] [.elem [.int .i64 2]]]], .int .i64 (1)]) := by
 refine r_logic_find rfl fun hw => ?_
 clear hw
 repeat' ((conv => whnf); (first | refine csp (fun h => ?_) (fun h => ?_) | refine cllo (kinds_no_DAY) (fun _ => ?_) | refine cllo (days_DAY) (fun _ => ?_) | (refine sda ?_ ?_; (focus (first | rfl | (simp; done)))) | refine sda ?_ ?_ | refine conk rfl ?_ | refine ldk rfl ?_ | refine mapk (fun x hx => ?_) | exact ⟨rfl, rfl⟩ | refine nilk (fun h => ?_) ?_ | intro hl))
 all_goals conv => whnf
theorem fnd_WEEKDAY : Ret Tryz.prog F_logic_find [.str ⟨#[87, 69, 69, 75, 68, 65, 89]⟩] (.tup [.fn F_logic_of_1 [] [.elem [.fn F_logic_days_1 [] []]], .int .i64 (1)]) := by
 refine r_logic_find rfl fun hw => ?_
 clear hw
 repeat' ((conv => whnf); (first | refine csp (fun h => ?_) (fun h => ?_) | refine cllo (kinds_no_WEEKDAY) (fun _ => ?_) | refine cllo (days_WEEKDAY) (fun _ => ?_) | (refine sda ?_ ?_; (focus (first | rfl | (simp; done)))) | refine sda ?_ ?_ | refine conk rfl ?_ | refine ldk rfl ?_ | refine mapk (fun x hx => ?_) | exact ⟨rfl, rfl⟩ | refine nilk (fun h => ?_) ?_ | intro hl))
 all_goals conv => whnf
theorem fnd_WEEKNUM : Ret Tryz.prog F_logic_find [.str ⟨#[87, 69, 69, 75, 78, 85, 77]⟩] (.tup [.fn F_logic_of_1 [] [.elem [.fn F_logic_days_2 [] []]], .int .i64 (1)]) := by
 refine r_logic_find rfl fun hw => ?_
 clear hw
 repeat' ((conv => whnf); (first | refine csp (fun h => ?_) (fun h => ?_) | refine cllo (kinds_no_WEEKNUM) (fun _ => ?_) | refine cllo (days_WEEKNUM) (fun _ => ?_) | (refine sda ?_ ?_; (focus (first | rfl | (simp; done)))) | refine sda ?_ ?_ | refine conk rfl ?_ | refine ldk rfl ?_ | refine mapk (fun x hx => ?_) | exact ⟨rfl, rfl⟩ | refine nilk (fun h => ?_) ?_ | intro hl))
 all_goals conv => whnf
theorem fnd_DATETEXT : Ret Tryz.prog F_logic_find [.str ⟨#[68, 65, 84, 69, 84, 69, 88, 84]⟩] (.tup [.fn F_logic_of_1 [] [.elem [.fn F_logic_days_3 [] []]], .int .i64 (1)]) := by
 refine r_logic_find rfl fun hw => ?_
 clear hw
 repeat' ((conv => whnf); (first | refine csp (fun h => ?_) (fun h => ?_) | refine cllo (kinds_no_DATETEXT) (fun _ => ?_) | refine cllo (days_DATETEXT) (fun _ => ?_) | (refine sda ?_ ?_; (focus (first | rfl | (simp; done)))) | refine sda ?_ ?_ | refine conk rfl ?_ | refine ldk rfl ?_ | refine mapk (fun x hx => ?_) | exact ⟨rfl, rfl⟩ | refine nilk (fun h => ?_) ?_ | intro hl))
 all_goals conv => whnf
end Go.Proofs.YtllceoncpgebpaaGreatDoor
set_option maxRecDepth 100000
set_option linter.all false
namespace Go.Proofs.YtllceoncpgebpaaGreatDoor
open Ab R
def strS (s : ByteArray) : GV := if 255 < s.size then badS 2 else ⟨2, 0, s⟩
theorem value_Str (s : ByteArray) : Ret Tryz.prog F_value_Str [.str s] (eV (strS s)) := by
 refine r_value_Str rfl fun hw => ?_
 clear hw
 repeat' ((conv => whnf); (first | refine csp (fun h => ?_) (fun h => ?_) | refine cllo (value_Bad _) (fun _ => ?_) | (refine sda ?_ ?_; (focus (first | rfl | (simp; done)))) | refine sda ?_ ?_ | refine conk rfl ?_ | refine ldk rfl ?_ | refine mapk (fun x hx => ?_) | exact ⟨rfl, rfl⟩ | refine nilk (fun h => ?_) ?_ | intro hl))
 all_goals conv => whnf
 all_goals try simp only [tz] at *
 ·rw [strS, if_pos (by omega)]
 ·rw [strS, if_neg (by omega)]
def dyS (v : GV) : Int × Int := if 0 < (tn v).2 then (0, (tn v).2) else if (tn v).1.tdiv 10000 < 1 ∨ 2958464 < (tn v).1.tdiv 10000 then (0, 5) else ((tn v).1.tdiv 10000, 0)
theorem logic_day (a : Ar) : Ret Tryz.prog F_logic_day [eA a] (.tup [.int .i64 (dyS (oneS a)).1, .int .i64 (dyS (oneS a)).2]) := by
 refine r_logic_day rfl fun hw => ?_
 clear hw
 have hb := (tn_good (oneS_good a)).1
 simp only [goodN, decide_eq_true_eq] at hb
 have hw : IntKind.i64.wrap ((tn (oneS a)).1.tdiv 10000) = (tn (oneS a)).1.tdiv 10000 := w64 (by
  have := tdivb (n := (tn (oneS a)).1) (by simp only [goodN, decide_eq_true_eq]; exact hb)
  omega)
 repeat' ((conv => whnf); (first | refine csp (fun h => ?_) (fun h => ?_) | refine cllo (maths_One _) (fun _ => ?_) | refine cllo (ToNum_g _ (oneS_good a)) (fun _ => ?_) | (refine sda ?_ ?_; (focus (first | rfl | (simp; done)))) | refine sda ?_ ?_ | refine conk rfl ?_ | refine ldk rfl ?_ | refine mapk (fun x hx => ?_) | exact ⟨rfl, rfl⟩ | refine nilk (fun h => ?_) ?_ | intro hl))
 all_goals conv => whnf
 all_goals try simp only [tz] at *
 ·rw [dyS, if_pos h]
 ·rw [hw] at h
  rw [dyS, if_neg (by omega), if_pos (.inl h)]
 ·rw [hw] at h
  rw [dyS, if_neg (by omega), if_pos (.inr h)]
 ·simp only [hw] at *
  rw [dyS, if_neg (by omega), if_neg (by omega)]
theorem dyS_bd {v : GV} (h : (dyS v).2 ≤ 0) : 1 ≤ (dyS v).1 ∧ (dyS v).1 ≤ 2958464 := by
 unfold dyS at h ⊢
 split at h
 ·simp only at h; omega
 ·rename_i h1
  rw [if_neg h1]
  split at h
  ·simp only at h; omega
  ·rename_i h2
   rw [if_neg h2]
   simp only
   omega
theorem of1_0 (g : FuncId) (q : Int → GV) (hq : ∀ d, 1 ≤ d → d ≤ 2958464 → Ret Tryz.prog g [.int .i64 d] (eV (q d))) (a : Ar) : Ret Tryz.prog F_logic_of_1 [.row false [cA a], .elem [.fn g [] []]] (eV (if 0 < (dyS (oneS a)).2 then badS (dyS (oneS a)).2 else q (dyS (oneS a)).1)) := by
 refine r_logic_of_1 rfl fun hw => ?_
 clear hw
 by_cases hd : (dyS (oneS a)).2 ≤ 0
 ·obtain ⟨d1, d2⟩ := dyS_bd hd
  repeat' ((conv => whnf); (first | refine csp (fun h => ?_) (fun h => ?_) | refine cllo (logic_day _) (fun _ => ?_) | refine cllo (hq _ d1 d2) (fun _ => ?_) | (refine sda ?_ ?_; (focus (first | rfl | (simp; done)))) | refine sda ?_ ?_ | refine conk rfl ?_ | refine ldk rfl ?_ | refine mapk (fun x hx => ?_) | exact ⟨rfl, rfl⟩ | refine nilk (fun h => ?_) ?_ | intro hl))
  all_goals conv => whnf
  all_goals try simp only [tz] at *
  ·omega
  ·rw [if_neg (by omega)]
 ·repeat' ((conv => whnf); (first | refine csp (fun h => ?_) (fun h => ?_) | refine cllo (logic_day _) (fun _ => ?_) | refine cllo (value_Bad _) (fun _ => ?_) | (refine sda ?_ ?_; (focus (first | rfl | (simp; done)))) | refine sda ?_ ?_ | refine conk rfl ?_ | refine ldk rfl ?_ | refine mapk (fun x hx => ?_) | exact ⟨rfl, rfl⟩ | refine nilk (fun h => ?_) ?_ | intro hl))
  all_goals conv => whnf
  all_goals try simp only [tz] at *
  ·rw [if_pos h]
  ·omega
def stI (st : List Int × Int) (a : Ar) : List Int × Int :=
 if st.2 ≠ 0 then st else if 0 < (tn (oneS a)).2 then ([], (tn (oneS a)).2) else if (wholeS (tn (oneS a)).1).2 = true then (st.1 ++ [(wholeS (tn (oneS a)).1).1], 0) else ([], 5)
def intsL (l : List Ar) : List Int × Int := l.foldl stI ([], 0)
theorem stI_err : ∀ (l : List Ar) (st : List Int × Int), st.2 ≠ 0 → l.foldl stI st = st
 | [], _, _ => rfl
 | v :: l, st, h => by rw [List.foldl_cons, stI, if_pos h]; exact stI_err l st h
abbrev cI (n : Int) : List V := [.int .i64 n]
theorem intsL_err {l : List Ar} {n : Nat} {x : Ar} (hx : l[n]? = some x) (he : (stI ((l.take n).foldl stI ([], 0)) x).2 ≠ 0) : intsL l = stI ((l.take n).foldl stI ([], 0)) x := by
 rw [intsL, foldD hx]
 exact stI_err _ _ he
theorem logic_ints (l : List Ar) (hs : l.length ≤ 10) : Ret Tryz.prog F_logic_ints [.row false (l.map cA)] (.tup [.row false ((intsL l).1.map cI), .int .i64 (intsL l).2]) := by
 refine r_logic_ints rfl fun hw => ?_
 clear hw
 repeat' ((conv => whnf); (first | refine csp (fun h => ?_) (fun h => ?_) | (refine sda ?_ ?_; (focus (first | rfl | (simp; done)))) | refine sda ?_ ?_ | refine conk rfl ?_ | refine ldk rfl ?_ | refine mapk (fun x hx => ?_) | exact ⟨rfl, rfl⟩ | refine nilk (fun h => ?_) ?_ | intro hl))
 refine .inl ⟨Nat, [4, 11, 12, 13], [2], fun n => [(4, match n with | 0 => .row true [] | n + 1 => .sl 0 0 (n + 1)), (11, .row false (l.map cA)), (12, .int .i64 (l.map cA).length), (13, .int .i64 n)], fun n => [match n with | 0 => .gone | n + 1 => .arr true 1 (((l.take (n + 1)).foldl stI ([], 0)).1.map cI)], fun n => n ≤ l.length ∧ ((l.take n).foldl stI ([], 0)).2 = 0 ∧ ((l.take n).foldl stI ([], 0)).1.length = n, fun n => l.length - n, rfl, ?_, fun n hn => ?_⟩
 ·exact ⟨0, rfl, rfl, Nat.zero_le _, rfl, rfl⟩
 ·obtain ⟨hn1, hn2, hn3⟩ := hn
  cases n with
  | zero =>
   repeat' ((conv => whnf); (first | refine csp (fun h => ?_) (fun h => ?_) | refine cllo (maths_One _) (fun _ => ?_) | refine cllo (ToNum_g _ (oneS_good _)) (fun _ => ?_) | refine cllo (num_Whole _) (fun _ => ?_) | (refine sda ?_ ?_; (focus (first | rfl | (simp; done)))) | refine sda ?_ ?_ | refine conk rfl ?_ | refine ldk rfl ?_ | refine mapk (fun x hx => ?_) | exact ⟨rfl, rfl⟩ | refine nilk (fun h => ?_) ?_ | intro hl))
   all_goals conv => whnf
   all_goals try simp only [tz] at *
   ·omega
   ·have hx' : l[0]? = some x := hx
    have e : stI ((l.take (0)).foldl stI ([], 0)) x = ([], (tn (oneS x)).2) := by rw [stI, if_neg (by rw [hn2]; simp), if_pos h]
    have e2 := intsL_err hx' (by rw [e]; simp only; omega)
    rw [e2, e]
    rfl
   ·have hx' : l[0]? = some x := hx
    have e : stI ((l.take (0)).foldl stI ([], 0)) x = ([], 5) := by rw [stI, if_neg (by rw [hn2]; simp), if_neg (by omega), if_neg (by rw [h]; simp)]
    have e2 := intsL_err hx' (by rw [e]; simp)
    rw [e2, e]
    rfl
   ·rename _ ∈ [_] => hm
    rw [List.mem_singleton.1 hm]
    rfl
   ·exact Nat.le_of_ble_eq_true (by kernel_rfl)
   ·have hx' : l[0]? = some x := hx
    have hlt := (List.getElem?_eq_some_iff.1 hx').1
    have e : stI ((l.take 0).foldl stI ([], 0)) x = ([(wholeS (tn (oneS x)).1).1], 0) := by rw [stI, if_neg (by rw [hn2]; simp), if_neg (by omega), if_pos h]; rfl
    have e1 : (l.take 1).foldl stI ([], 0) = ([(wholeS (tn (oneS x)).1).1], 0) := by rw [foldT hx', e]
    refine ⟨1, rfl, ?_, ⟨by omega, by rw [e1], by rw [e1]; rfl⟩, by omega⟩
    show [O.arr true 1 [cI (wholeS (tn (oneS x)).1).1]] = [O.arr true 1 (((l.take 1).foldl stI ([], 0)).1.map cI)]
    rw [e1]
    rfl
   ·obtain rfl : l = [] := List.eq_nil_of_length_eq_zero (by omega)
    rfl
  | succ n =>
   repeat' ((conv => whnf); (first | refine csp (fun h => ?_) (fun h => ?_) | refine cllo (maths_One _) (fun _ => ?_) | refine cllo (ToNum_g _ (oneS_good _)) (fun _ => ?_) | refine cllo (num_Whole _) (fun _ => ?_) | (refine sda ?_ ?_; (focus (first | rfl | (simp; done)))) | refine sda ?_ ?_ | refine conk rfl ?_ | refine ldk rfl ?_ | refine mapk (fun x hx => ?_) | exact ⟨rfl, rfl⟩ | refine nilk (fun h => ?_) ?_ | intro hl))
   all_goals conv => whnf
   all_goals try simp only [tz] at *
   ·omega
   ·have hx' : l[n + 1]? = some x := hx
    have e : stI ((l.take (n + 1)).foldl stI ([], 0)) x = ([], (tn (oneS x)).2) := by rw [stI, if_neg (by rw [hn2]; simp), if_pos h]
    have e2 := intsL_err hx' (by rw [e]; simp only; omega)
    rw [e2, e]
    rfl
   ·have hx' : l[n + 1]? = some x := hx
    have e : stI ((l.take (n + 1)).foldl stI ([], 0)) x = ([], 5) := by rw [stI, if_neg (by rw [hn2]; simp), if_neg (by omega), if_neg (by rw [h]; simp)]
    have e2 := intsL_err hx' (by rw [e]; simp)
    rw [e2, e]
    rfl
   ·exact hn3.symm
   ·rename _ ∈ [_] => hm
    rw [List.mem_singleton.1 hm]
    rfl
   ·rename V => c
    rename c ∈ _ => hc
    rename _ ∈ [_] => he
    rw [List.mem_singleton.1 he] at hc
    rw [List.mem_singleton.1 hc]
    rfl
   ·refine bytesb ?_ (by kernel_rfl)
    show (((l.take (n + 1)).foldl stI ([], 0)).1).length + 1 ≤ 11
    omega
   ·have hx' : l[n + 1]? = some x := hx
    have hlt := (List.getElem?_eq_some_iff.1 hx').1
    have e : stI ((l.take (n + 1)).foldl stI ([], 0)) x = (((l.take (n + 1)).foldl stI ([], 0)).1 ++ [(wholeS (tn (oneS x)).1).1], 0) := by rw [stI, if_neg (by rw [hn2]; simp), if_neg (by omega), if_pos h]
    have e1 : (l.take (n + 1 + 1)).foldl stI ([], 0) = (((l.take (n + 1)).foldl stI ([], 0)).1 ++ [(wholeS (tn (oneS x)).1).1], 0) := by rw [foldT hx', e]
    refine ⟨n + 2, ?_, ?_, ⟨by omega, by rw [e1], by rw [e1]; simp only [List.length_append, List.length_cons, List.length_nil]; omega⟩, by omega⟩
    ·show [(4, V.sl 0 0 ((((l.take (n + 1)).foldl stI ([], 0)).1).length + 1)), (11, V.row false (List.map cA l)), (12, V.int IntKind.i64 l.length), (13, V.int IntKind.i64 (IntKind.i64.wrap (((n + 1 : Nat) : Int) + 1)))] = [(4, V.sl 0 0 (n + 1 + 1)), (11, V.row false (List.map cA l)), (12, V.int IntKind.i64 l.length), (13, V.int IntKind.i64 ((n + 1 + 1 : Nat) : Int))]
     rw [hn3, w64 (by omega)]
     rfl
    ·show [O.arr true 1 (List.map cI (((l.take (n + 1)).foldl stI ([], 0)).1) ++ [cI (wholeS (tn (oneS x)).1).1])] = [O.arr true 1 (((l.take (n + 1 + 1)).foldl stI ([], 0)).1.map cI)]
     rw [e1, List.map_append]
     rfl
   ·have h1 : l.take (n + 1) = l := List.take_of_length_le (by omega)
    rw [h1] at hn2 hn3 ⊢
    rw [List.drop_zero, List.take_of_length_le (by rw [List.length_map]; omega)]
    show V.tup [.row false ((intsL l).1.map cI), .int .i64 0] = _
    rw [show (intsL l).2 = 0 from hn2]
end Go.Proofs.YtllceoncpgebpaaGreatDoor
set_option maxRecDepth 100000
set_option linter.all false
namespace Go.Proofs.YtllceoncpgebpaaGreatDoor
open Ab R
theorem date_Of (y m d : Int) : Ret Tryz.prog F_date_Of [.int .i64 y, .int .i64 m, .int .i64 d] (.tup [.int .i64 (Lg.dof y m d).1, .bool (Lg.dof y m d).2]) := by
 have := Lg.dof_bd y m d
 exact c_date_Of y m d (Lg.dof y m d).1 (Lg.dof y m d).2 (Lg.Of_is y m d) (w64 (by omega))
theorem date_Months (a n : Int) (e : Bool) (h1 : 1 ≤ a) (h2 : a ≤ 2958464) : Ret Tryz.prog F_date_Months [.int .i64 a, .int .i64 n, .bool e] (.tup [.int .i64 (Lg.mnt a n e).1, .bool (Lg.mnt a n e).2]) := by
 have := Lg.mnt_bd a n e
 exact c_date_Months a n e (Lg.mnt a n e).1 (Lg.mnt a n e).2 (Lg.Mnt_is e h1 h2) (w64 (by omega))
theorem date_Parts (a : Int) (h1 : 1 ≤ a) (h2 : a ≤ 2958464) : Ret Tryz.prog F_date_Parts [.int .i64 a] (.tup [.int .i64 (Lg.prt3 a).1, .int .i64 (Lg.prt3 a).2.1, .int .i64 (Lg.prt3 a).2.2, .bool true]) := by
 have h := Lg.prt3_is h1 h2
 have := Lg.Is.bd h
 exact c_date_Parts a _ _ _ _ (Dt.Parts_is h) (w64 (by omega)) (w64 (by omega)) (w64 (by omega))
noncomputable def dtx (a : Int) : ByteArray := strOfNums (Dt.fmt (Lg.prt3 a).1 (Lg.prt3 a).2.1 (Lg.prt3 a).2.2)
theorem dtx_size (a : Int) : (dtx a).size = 10 := by
 rw [dtx, Dt.son_size]
 rfl
theorem date_Print (a : Int) (h1 : 1 ≤ a) (h2 : a ≤ 2958464) : Ret Tryz.prog F_date_Print [.int .i64 a] (.str (dtx a)) := by
 have h := Lg.prt3_is h1 h2
 exact c_date_Print a (dtx a) (Dt.Print_is h) (by rw [dtx_size]; decide)
theorem parse_bd (s : ByteArray) : 0 ≤ (Dt.parse s).1 ∧ (Dt.parse s).1 ≤ 2958464 := by
 unfold Dt.parse
 split
 ·exact Lg.day_bd _ _ _
 ·simp
theorem date_Parse (s : ByteArray) : Ret Tryz.prog F_date_Parse [.str s] (.tup [.int .i64 (Dt.parse s).1, .bool (Dt.parse s).2]) := by
 have := parse_bd s
 exact c_date_Parse s (Dt.parse s).1 (Dt.parse s).2 (Dt.Parse_is s) (w64 (by omega))
theorem part1_0 (a : Int) (h1 : 1 ≤ a) (h2 : a ≤ 2958464) : Ret Tryz.prog F_logic_part_1 [.int .i64 a, .elem [.int .i64 0]] (eV (whS (Lg.prt3 a).1)) := by
 refine r_logic_part_1 rfl fun hw => ?_
 clear hw
 repeat' ((conv => whnf); (first | refine csp (fun h => ?_) (fun h => ?_) | refine cllo (date_Parts a h1 h2) (fun _ => ?_) | refine cllo (logic_whole _) (fun _ => ?_) | (refine sda ?_ ?_; (focus (first | rfl | (simp; done)))) | refine sda ?_ ?_ | refine conk rfl ?_ | refine ldk rfl ?_ | refine mapk (fun x hx => ?_) | exact ⟨rfl, rfl⟩ | refine nilk (fun h => ?_) ?_ | intro hl))
 all_goals conv => whnf
theorem part1_1 (a : Int) (h1 : 1 ≤ a) (h2 : a ≤ 2958464) : Ret Tryz.prog F_logic_part_1 [.int .i64 a, .elem [.int .i64 1]] (eV (whS (Lg.prt3 a).2.1)) := by
 refine r_logic_part_1 rfl fun hw => ?_
 clear hw
 repeat' ((conv => whnf); (first | refine csp (fun h => ?_) (fun h => ?_) | refine cllo (date_Parts a h1 h2) (fun _ => ?_) | refine cllo (logic_whole _) (fun _ => ?_) | (refine sda ?_ ?_; (focus (first | rfl | (simp; done)))) | refine sda ?_ ?_ | refine conk rfl ?_ | refine ldk rfl ?_ | refine mapk (fun x hx => ?_) | exact ⟨rfl, rfl⟩ | refine nilk (fun h => ?_) ?_ | intro hl))
 all_goals conv => whnf
theorem part1_2 (a : Int) (h1 : 1 ≤ a) (h2 : a ≤ 2958464) : Ret Tryz.prog F_logic_part_1 [.int .i64 a, .elem [.int .i64 2]] (eV (whS (Lg.prt3 a).2.2)) := by
 refine r_logic_part_1 rfl fun hw => ?_
 clear hw
 repeat' ((conv => whnf); (first | refine csp (fun h => ?_) (fun h => ?_) | refine cllo (date_Parts a h1 h2) (fun _ => ?_) | refine cllo (logic_whole _) (fun _ => ?_) | (refine sda ?_ ?_; (focus (first | rfl | (simp; done)))) | refine sda ?_ ?_ | refine conk rfl ?_ | refine ldk rfl ?_ | refine mapk (fun x hx => ?_) | exact ⟨rfl, rfl⟩ | refine nilk (fun h => ?_) ?_ | intro hl))
 all_goals conv => whnf
theorem of1_k (k : Int) (q : Int → GV) (hq : ∀ d, 1 ≤ d → d ≤ 2958464 → Ret Tryz.prog F_logic_part_1 [.int .i64 d, .elem [.int .i64 k]] (eV (q d))) (a : Ar) : Ret Tryz.prog F_logic_of_1 [.row false [cA a], .elem [.fn F_logic_part_1 [] [.elem [.int .i64 k]]]] (eV (if 0 < (dyS (oneS a)).2 then badS (dyS (oneS a)).2 else q (dyS (oneS a)).1)) := by
 refine r_logic_of_1 rfl fun hw => ?_
 clear hw
 by_cases hd : (dyS (oneS a)).2 ≤ 0
 ·obtain ⟨d1, d2⟩ := dyS_bd hd
  repeat' ((conv => whnf); (first | refine csp (fun h => ?_) (fun h => ?_) | refine cllo (logic_day _) (fun _ => ?_) | refine cllo (hq _ d1 d2) (fun _ => ?_) | (refine sda ?_ ?_; (focus (first | rfl | (simp; done)))) | refine sda ?_ ?_ | refine conk rfl ?_ | refine ldk rfl ?_ | refine mapk (fun x hx => ?_) | exact ⟨rfl, rfl⟩ | refine nilk (fun h => ?_) ?_ | intro hl))
  all_goals conv => whnf
  all_goals try simp only [tz] at *
  ·omega
  ·rw [if_neg (by omega)]
 ·repeat' ((conv => whnf); (first | refine csp (fun h => ?_) (fun h => ?_) | refine cllo (logic_day _) (fun _ => ?_) | refine cllo (value_Bad _) (fun _ => ?_) | (refine sda ?_ ?_; (focus (first | rfl | (simp; done)))) | refine sda ?_ ?_ | refine conk rfl ?_ | refine ldk rfl ?_ | refine mapk (fun x hx => ?_) | exact ⟨rfl, rfl⟩ | refine nilk (fun h => ?_) ?_ | intro hl))
  all_goals conv => whnf
  all_goals try simp only [tz] at *
  ·rw [if_pos h]
  ·omega
theorem days_3 (a : Int) (h1 : 1 ≤ a) (h2 : a ≤ 2958464) : Ret Tryz.prog F_logic_days_3 [.int .i64 a] (eV ⟨2, 0, dtx a⟩) := by
 refine r_logic_days_3 rfl fun hw => ?_
 clear hw
 repeat' ((conv => whnf); (first | refine csp (fun h => ?_) (fun h => ?_) | refine cllo (date_Print a h1 h2) (fun _ => ?_) | refine cllo (value_Str _) (fun _ => ?_) | (refine sda ?_ ?_; (focus (first | rfl | (simp; done)))) | refine sda ?_ ?_ | refine conk rfl ?_ | refine ldk rfl ?_ | refine mapk (fun x hx => ?_) | exact ⟨rfl, rfl⟩ | refine nilk (fun h => ?_) ?_ | intro hl))
 all_goals conv => whnf
 all_goals rw [strS, if_neg (by rw [dtx_size]; decide)]
theorem stI_len : ∀ (l : List Ar) (acc : List Int), (l.foldl stI (acc, 0)).2 = 0 → (l.foldl stI (acc, 0)).1.length = acc.length + l.length
 | [], acc, _ => rfl
 | a :: l, acc, h => by
  rw [List.foldl_cons, stI, if_neg (by simp)] at h ⊢
  split at h
  ·rw [stI_err _ _ (by simp only; omega)] at h
   simp only at h
   omega
  ·rename_i h1
   rw [if_neg h1]
   split at h
   ·rename_i h2
    rw [if_pos h2, stI_len l _ h, List.length_append, List.length_cons, List.length_cons, List.length_nil]
    simp only
    omega
   ·rw [stI_err _ _ (by simp)] at h
    simp at h
theorem stI_pos : ∀ (l : List Ar) (st : List Int × Int), 0 ≤ st.2 ∧ st.2 ≤ 8 → 0 ≤ (l.foldl stI st).2 ∧ (l.foldl stI st).2 ≤ 8
 | [], _, h => h
 | a :: l, st, h => by
  rw [List.foldl_cons]
  refine stI_pos l _ ?_
  have := tn_good (oneS_good a)
  unfold stI
  split
  ·exact h
  ·split
   ·exact ⟨by simp only; omega, by simp only; omega⟩
   ·split <;> simp
theorem intsL_len (l : List Ar) (h : (intsL l).2 = 0) : (intsL l).1.length = l.length := by
 have := stI_len l [] h
 simpa [intsL] using this
theorem intsL_pos (l : List Ar) : 0 ≤ (intsL l).2 ∧ (intsL l).2 ≤ 8 := stI_pos l ([], 0) (by simp)
theorem getD_of {l : List Int} {n : Nat} {x : Int} (h : l[n]? = some x) : l.getD n 0 = x := by
 rw [List.getD_eq_getElem?_getD, h]
 rfl
def dateS (l : List Ar) : GV := if 0 < (intsL l).2 then badS (intsL l).2 else toldS (Lg.dof ((intsL l).1.getD 0 0) ((intsL l).1.getD 1 0) ((intsL l).1.getD 2 0)).1 (Lg.dof ((intsL l).1.getD 0 0) ((intsL l).1.getD 1 0) ((intsL l).1.getD 2 0)).2
theorem find_5 (a b c : Ar) : Ret Tryz.prog F_logic_find_5 [.row false [cA a, cA b, cA c]] (eV (dateS [a, b, c])) := by
 have hi := logic_ints [a, b, c] (show 3 ≤ 10 by decide)
 have hl := intsL_len [a, b, c]
 have hp := intsL_pos [a, b, c]
 refine r_logic_find_5 rfl fun hw => ?_
 clear hw
 repeat' ((conv => whnf); (first | refine csp (fun h => ?_) (fun h => ?_) | refine cllo (hi) (fun _ => ?_) | refine cllo (value_Bad _) (fun _ => ?_) | refine cllo (date_Of _ _ _) (fun _ => ?_) | refine cllo (logic_told _ _) (fun _ => ?_) | (refine sda ?_ ?_; (focus (first | rfl | (simp; done)))) | refine sda ?_ ?_ | refine conk rfl ?_ | refine ldk rfl ?_ | refine mapk (fun x hx => ?_) | exact ⟨rfl, rfl⟩ | refine nilk (fun h => ?_) ?_ | intro hl))
 all_goals conv => whnf
 all_goals try simp only [tz] at *
 ·rw [dateS, if_pos h]
 ·have := hl (by omega)
  simp only [List.length_cons, List.length_nil] at this
  omega
 ·have := hl (by omega)
  simp only [List.length_cons, List.length_nil] at this
  omega
 ·have := hl (by omega)
  simp only [List.length_cons, List.length_nil] at this
  omega
 ·rename (intsL [a, b, c]).1[Int.toNat 0]? = _ => h0
  rename (intsL [a, b, c]).1[Int.toNat 1]? = _ => h1
  rw [dateS, if_neg (by omega), show (intsL [a, b, c]).1.getD 0 0 = _ from getD_of h0, show (intsL [a, b, c]).1.getD 1 0 = _ from getD_of h1, show (intsL [a, b, c]).1.getD 2 0 = _ from getD_of hx]
theorem find_7 (a : Ar) : Ret Tryz.prog F_logic_find_7 [.row false [cA a]] (eV (if 0 < (tx (oneS a)).2 then badS (tx (oneS a)).2 else if (Dt.parse (tx (oneS a)).1).2 = true then whS (Dt.parse (tx (oneS a)).1).1 else badS 2)) := by
 refine r_logic_find_7 rfl fun hw => ?_
 clear hw
 repeat' ((conv => whnf); (first | refine csp (fun h => ?_) (fun h => ?_) | refine cllo (maths_One _) (fun _ => ?_) | refine cllo (ToText_g _ (oneS_good a)) (fun _ => ?_) | refine cllo (value_Bad _) (fun _ => ?_) | refine cllo (date_Parse _) (fun _ => ?_) | refine cllo (logic_whole _) (fun _ => ?_) | (refine sda ?_ ?_; (focus (first | rfl | (simp; done)))) | refine sda ?_ ?_ | refine conk rfl ?_ | refine ldk rfl ?_ | refine mapk (fun x hx => ?_) | exact ⟨rfl, rfl⟩ | refine nilk (fun h => ?_) ?_ | intro hl))
 all_goals conv => whnf
 all_goals try simp only [tz] at *
 ·rw [if_pos h]
 ·rw [if_neg (by omega), if_neg (by rw [h]; simp)]
 ·rw [if_neg (by omega), if_pos h]
theorem months1 (a b : Ar) (e : Bool) : Ret Tryz.prog F_logic_months_1 [.row false [cA a, cA b], .elem [.bool e]] (eV (if 0 < (dyS (oneS a)).2 then badS (dyS (oneS a)).2 else if 0 < (intsL [b]).2 then badS (intsL [b]).2 else toldS (Lg.mnt (dyS (oneS a)).1 ((intsL [b]).1.getD 0 0) e).1 (Lg.mnt (dyS (oneS a)).1 ((intsL [b]).1.getD 0 0) e).2)) := by
 have hi := logic_ints [b] (show 1 ≤ 10 by decide)
 have hl := intsL_len [b]
 have hp := intsL_pos [b]
 refine r_logic_months_1 rfl fun hw => ?_
 clear hw
 by_cases hd : (dyS (oneS a)).2 ≤ 0
 ·obtain ⟨d1, d2⟩ := dyS_bd hd
  repeat' ((conv => whnf); (first | refine csp (fun h => ?_) (fun h => ?_) | refine cllo (logic_day _) (fun _ => ?_) | refine cllo (hi) (fun _ => ?_) | refine cllo (value_Bad _) (fun _ => ?_) | refine cllo (date_Months _ _ _ d1 d2) (fun _ => ?_) | refine cllo (logic_told _ _) (fun _ => ?_) | (refine sda ?_ ?_; (focus (first | rfl | (simp; done)))) | refine sda ?_ ?_ | refine conk rfl ?_ | refine ldk rfl ?_ | refine mapk (fun x hx => ?_) | exact ⟨rfl, rfl⟩ | refine nilk (fun h => ?_) ?_ | intro hl))
  all_goals conv => whnf
  all_goals try simp only [tz] at *
  ·omega
  ·rw [if_neg (by omega), if_pos h]
  ·have := hl (by omega)
   simp only [List.length_cons, List.length_nil] at this
   omega
  ·rw [if_neg (by omega), if_neg (by omega), show (intsL [b]).1.getD 0 0 = _ from getD_of hx]
 ·repeat' ((conv => whnf); (first | refine csp (fun h => ?_) (fun h => ?_) | refine cllo (logic_day _) (fun _ => ?_) | refine cllo (hi) (fun _ => ?_) | refine cllo (value_Bad _) (fun _ => ?_) | (refine sda ?_ ?_; (focus (first | rfl | (simp; done)))) | refine sda ?_ ?_ | refine conk rfl ?_ | refine ldk rfl ?_ | refine mapk (fun x hx => ?_) | exact ⟨rfl, rfl⟩ | refine nilk (fun h => ?_) ?_ | intro hl))
  all_goals conv => whnf
  all_goals try simp only [tz] at *
  ·rw [if_pos h]
  all_goals omega
end Go.Proofs.YtllceoncpgebpaaGreatDoor
set_option maxRecDepth 100000
set_option linter.all false
namespace Go.Proofs.YtllceoncpgebpaaGreatDoor
open Ab R
abbrev oA (v : GV) : Ar := ⟨1, 1, [v], false⟩
theorem one_oA {v : GV} (h : goodV v = true) : oneS (oA v) = v := by
 have : goodA (oA v) = true := goodA_yes ⟨by simp [oA], by simp [oA], by simp [oA], by simp [oA], rfl⟩ (by simp [oA, h])
 rw [oneS, if_pos ⟨rfl, this⟩]
 rfl
theorem lv1 : Ret Tryz.prog F_octavolaw19_ask [.str ⟨#[65, 78, 68]⟩, .row false [cA (oA ⟨3, 1, e0⟩), cA (oA ⟨1, 10000, e0⟩)]] (eV ⟨3, 1, e0⟩) := by
 have h := votes_1 F_logic_find_1 (fun _ n => decide (n = 0)) find_1 [oA ⟨3, 1, e0⟩, oA ⟨1, 10000, e0⟩]
 rw [show votesS [oA ⟨3, 1, e0⟩, oA ⟨1, 10000, e0⟩] = (0, 2, 0) by decide +kernel] at h
 exact l19_askF _ _ _ _ _ _ fnd_AND h (.inl ⟨by decide, by decide⟩)
theorem lv2 : Ret Tryz.prog F_octavolaw19_ask [.str ⟨#[84, 89, 80, 69]⟩, .row false [cA (oA ⟨2, 0, ⟨#[97]⟩⟩)]] (eV ⟨1, 20000, e0⟩) := by
 have h := kinds_4 (oA ⟨2, 0, ⟨#[97]⟩⟩)
 rw [one_oA (by decide +kernel)] at h
 exact l19_ask0 _ _ _ _ _ fnd_TYPE h (.inr rfl)
theorem lv3 : Ret Tryz.prog F_octavolaw19_ask [.str ⟨#[68, 65, 84, 69]⟩, .row false [cA (oA ⟨1, 20240000, e0⟩), cA (oA ⟨1, 20000, e0⟩), cA (oA ⟨1, 300000, e0⟩)]] (eV ⟨1, 453510000, e0⟩) := by
 have h := find_5 (oA ⟨1, 20240000, e0⟩) (oA ⟨1, 20000, e0⟩) (oA ⟨1, 300000, e0⟩)
 rw [show dateS [oA ⟨1, 20240000, e0⟩, oA ⟨1, 20000, e0⟩, oA ⟨1, 300000, e0⟩] = ⟨1, 453510000, e0⟩ by rfl] at h
 exact l19_ask0 _ _ _ _ _ fnd_DATE h (.inr rfl)
theorem lv4 : Ret Tryz.prog F_octavolaw19_ask [.str ⟨#[68, 65, 84, 69, 84, 69, 88, 84]⟩, .row false [cA (oA ⟨1, 453510000, e0⟩)]] (eV ⟨2, 0, ⟨#[50, 48, 50, 52, 45, 48, 51, 45, 48, 49]⟩⟩) := by
 have h := of1_0 F_logic_days_3 (fun d => ⟨2, 0, dtx d⟩) days_3 (oA ⟨1, 453510000, e0⟩)
 rw [one_oA (by decide +kernel), show dyS ⟨1, 453510000, e0⟩ = (45351, 0) by decide +kernel, if_neg (by decide)] at h
 have e : dtx 45351 = ⟨#[50, 48, 50, 52, 45, 48, 51, 45, 48, 49]⟩ := by
  rw [dtx, Lg.prt3_eq (show Dt.Is 45351 2024 3 1 by unfold Dt.Is; decide)]
  rfl
 simp only [e] at h
 exact l19_askF _ _ _ _ _ _ fnd_DATETEXT h (.inr rfl)
theorem lv5 : Ret Tryz.prog F_octavolaw19_ask [.str ⟨#[73, 83, 69, 82, 82]⟩, .row false [cA (oA ⟨4, 6, e0⟩)]] (eV ⟨3, 0, e0⟩) := by
 have h := is1_0 F_logic_kinds_3 _ kinds_3 (oA ⟨4, 6, e0⟩)
 rw [one_oA (by decide +kernel)] at h
 exact l19_askF _ _ _ _ _ _ fnd_ISERR h (.inr rfl)
theorem l19_lives : Ret Tryz.prog F_octavolaw19_lives [] (.bool true) := by
 refine r_octavolaw19_lives rfl fun hw => ?_
 clear hw
 repeat' ((conv => whnf); (first | refine csp (fun h => ?_) (fun h => ?_) | refine cllo (lv1) (fun _ => ?_) | refine cllo (lv2) (fun _ => ?_) | refine cllo (lv3) (fun _ => ?_) | refine cllo (lv4) (fun _ => ?_) | refine cllo (lv5) (fun _ => ?_) | refine cllo (l19_one ⟨_, _, _⟩) (fun _ => ?_) | refine cllo (l19_number _) (fun _ => ?_) | refine cllo (l19_text _) (fun _ => ?_) | (refine sda ?_ ?_; (focus (first | rfl | (simp; done)))) | refine sda ?_ ?_ | refine conk rfl ?_ | refine ldk rfl ?_ | refine mapk (fun x hx => ?_) | exact ⟨rfl, rfl⟩ | refine nilk (fun h => ?_) ?_ | intro hl))
 all_goals conv => whnf
 all_goals rfl
end Go.Proofs.YtllceoncpgebpaaGreatDoor
set_option maxRecDepth 100000
set_option linter.all false
namespace Go.Proofs.YtllceoncpgebpaaGreatDoor
open Ab R
theorem l19_bad0 (nm : ByteArray) (g : FuncId)  (n : Int) (args : List (List V)) (hf : Ret Tryz.prog F_logic_find [.str nm] (.tup [.fn g [] [], .int .i64 n])) (h1 : (n < 0 ∧ args.length = 0) ∨ (0 ≤ n ∧ args.length ≠ n)) :
  Ret Tryz.prog F_logic_Call [.str nm, .row false args] (.tup [eV (badS 2), .bool true]) := by
 refine r_logic_Call rfl fun hw => ?_
 clear hw
 rcases h1 with ⟨h2, h3⟩ | ⟨h2, h3⟩
 ·repeat' ((conv => whnf); (first | refine csp (fun h => ?_) (fun h => ?_) | refine cllo (hf) (fun _ => ?_) | refine cllo (value_Bad _) (fun _ => ?_) | (refine sda ?_ ?_; (focus (first | rfl | (simp; done)))) | refine sda ?_ ?_ | refine conk rfl ?_ | refine ldk rfl ?_ | refine mapk (fun x hx => ?_) | exact ⟨rfl, rfl⟩ | refine nilk (fun h => ?_) ?_ | intro hl))
  all_goals conv => whnf
  all_goals try simp only [tz] at *
  all_goals exfalso
  all_goals omega
 ·repeat' ((conv => whnf); (first | refine csp (fun h => ?_) (fun h => ?_) | refine cllo (hf) (fun _ => ?_) | refine cllo (value_Bad _) (fun _ => ?_) | (refine sda ?_ ?_; (focus (first | rfl | (simp; done)))) | refine sda ?_ ?_ | refine conk rfl ?_ | refine ldk rfl ?_ | refine mapk (fun x hx => ?_) | exact ⟨rfl, rfl⟩ | refine nilk (fun h => ?_) ?_ | intro hl))
  all_goals conv => whnf
  all_goals try simp only [tz] at *
  all_goals exfalso
  all_goals omega
theorem l19_badF (nm : ByteArray) (g : FuncId) (f : FuncId) (n : Int) (args : List (List V)) (hf : Ret Tryz.prog F_logic_find [.str nm] (.tup [.fn g [] [.elem [.fn f [] []]], .int .i64 n])) (h1 : (n < 0 ∧ args.length = 0) ∨ (0 ≤ n ∧ args.length ≠ n)) :
  Ret Tryz.prog F_logic_Call [.str nm, .row false args] (.tup [eV (badS 2), .bool true]) := by
 refine r_logic_Call rfl fun hw => ?_
 clear hw
 rcases h1 with ⟨h2, h3⟩ | ⟨h2, h3⟩
 ·repeat' ((conv => whnf); (first | refine csp (fun h => ?_) (fun h => ?_) | refine cllo (hf) (fun _ => ?_) | refine cllo (value_Bad _) (fun _ => ?_) | (refine sda ?_ ?_; (focus (first | rfl | (simp; done)))) | refine sda ?_ ?_ | refine conk rfl ?_ | refine ldk rfl ?_ | refine mapk (fun x hx => ?_) | exact ⟨rfl, rfl⟩ | refine nilk (fun h => ?_) ?_ | intro hl))
  all_goals conv => whnf
  all_goals try simp only [tz] at *
  all_goals exfalso
  all_goals omega
 ·repeat' ((conv => whnf); (first | refine csp (fun h => ?_) (fun h => ?_) | refine cllo (hf) (fun _ => ?_) | refine cllo (value_Bad _) (fun _ => ?_) | (refine sda ?_ ?_; (focus (first | rfl | (simp; done)))) | refine sda ?_ ?_ | refine conk rfl ?_ | refine ldk rfl ?_ | refine mapk (fun x hx => ?_) | exact ⟨rfl, rfl⟩ | refine nilk (fun h => ?_) ?_ | intro hl))
  all_goals conv => whnf
  all_goals try simp only [tz] at *
  all_goals exfalso
  all_goals omega
theorem l19_badK (nm : ByteArray) (g : FuncId) (f : FuncId) (k : Int) (n : Int) (args : List (List V)) (hf : Ret Tryz.prog F_logic_find [.str nm] (.tup [.fn g [] [.elem [.fn f [] [.elem [.int .i64 k]]]], .int .i64 n])) (h1 : (n < 0 ∧ args.length = 0) ∨ (0 ≤ n ∧ args.length ≠ n)) :
  Ret Tryz.prog F_logic_Call [.str nm, .row false args] (.tup [eV (badS 2), .bool true]) := by
 refine r_logic_Call rfl fun hw => ?_
 clear hw
 rcases h1 with ⟨h2, h3⟩ | ⟨h2, h3⟩
 ·repeat' ((conv => whnf); (first | refine csp (fun h => ?_) (fun h => ?_) | refine cllo (hf) (fun _ => ?_) | refine cllo (value_Bad _) (fun _ => ?_) | (refine sda ?_ ?_; (focus (first | rfl | (simp; done)))) | refine sda ?_ ?_ | refine conk rfl ?_ | refine ldk rfl ?_ | refine mapk (fun x hx => ?_) | exact ⟨rfl, rfl⟩ | refine nilk (fun h => ?_) ?_ | intro hl))
  all_goals conv => whnf
  all_goals try simp only [tz] at *
  all_goals exfalso
  all_goals omega
 ·repeat' ((conv => whnf); (first | refine csp (fun h => ?_) (fun h => ?_) | refine cllo (hf) (fun _ => ?_) | refine cllo (value_Bad _) (fun _ => ?_) | (refine sda ?_ ?_; (focus (first | rfl | (simp; done)))) | refine sda ?_ ?_ | refine conk rfl ?_ | refine ldk rfl ?_ | refine mapk (fun x hx => ?_) | exact ⟨rfl, rfl⟩ | refine nilk (fun h => ?_) ?_ | intro hl))
  all_goals conv => whnf
  all_goals try simp only [tz] at *
  all_goals exfalso
  all_goals omega
theorem l19_badB (nm : ByteArray) (g : FuncId) (b : Bool) (n : Int) (args : List (List V)) (hf : Ret Tryz.prog F_logic_find [.str nm] (.tup [.fn g [] [.elem [.bool b]], .int .i64 n])) (h1 : (n < 0 ∧ args.length = 0) ∨ (0 ≤ n ∧ args.length ≠ n)) :
  Ret Tryz.prog F_logic_Call [.str nm, .row false args] (.tup [eV (badS 2), .bool true]) := by
 refine r_logic_Call rfl fun hw => ?_
 clear hw
 rcases h1 with ⟨h2, h3⟩ | ⟨h2, h3⟩
 ·repeat' ((conv => whnf); (first | refine csp (fun h => ?_) (fun h => ?_) | refine cllo (hf) (fun _ => ?_) | refine cllo (value_Bad _) (fun _ => ?_) | (refine sda ?_ ?_; (focus (first | rfl | (simp; done)))) | refine sda ?_ ?_ | refine conk rfl ?_ | refine ldk rfl ?_ | refine mapk (fun x hx => ?_) | exact ⟨rfl, rfl⟩ | refine nilk (fun h => ?_) ?_ | intro hl))
  all_goals conv => whnf
  all_goals try simp only [tz] at *
  all_goals exfalso
  all_goals omega
 ·repeat' ((conv => whnf); (first | refine csp (fun h => ?_) (fun h => ?_) | refine cllo (hf) (fun _ => ?_) | refine cllo (value_Bad _) (fun _ => ?_) | (refine sda ?_ ?_; (focus (first | rfl | (simp; done)))) | refine sda ?_ ?_ | refine conk rfl ?_ | refine ldk rfl ?_ | refine mapk (fun x hx => ?_) | exact ⟨rfl, rfl⟩ | refine nilk (fun h => ?_) ?_ | intro hl))
  all_goals conv => whnf
  all_goals try simp only [tz] at *
  all_goals exfalso
  all_goals omega
theorem l19_badV (nm : ByteArray) (g : FuncId) (v : GV) (n : Int) (args : List (List V)) (hf : Ret Tryz.prog F_logic_find [.str nm] (.tup [.fn g [] [.elem (cV v)], .int .i64 n])) (h1 : (n < 0 ∧ args.length = 0) ∨ (0 ≤ n ∧ args.length ≠ n)) :
  Ret Tryz.prog F_logic_Call [.str nm, .row false args] (.tup [eV (badS 2), .bool true]) := by
 refine r_logic_Call rfl fun hw => ?_
 clear hw
 rcases h1 with ⟨h2, h3⟩ | ⟨h2, h3⟩
 ·repeat' ((conv => whnf); (first | refine csp (fun h => ?_) (fun h => ?_) | refine cllo (hf) (fun _ => ?_) | refine cllo (value_Bad _) (fun _ => ?_) | (refine sda ?_ ?_; (focus (first | rfl | (simp; done)))) | refine sda ?_ ?_ | refine conk rfl ?_ | refine ldk rfl ?_ | refine mapk (fun x hx => ?_) | exact ⟨rfl, rfl⟩ | refine nilk (fun h => ?_) ?_ | intro hl))
  all_goals conv => whnf
  all_goals try simp only [tz] at *
  all_goals exfalso
  all_goals omega
 ·repeat' ((conv => whnf); (first | refine csp (fun h => ?_) (fun h => ?_) | refine cllo (hf) (fun _ => ?_) | refine cllo (value_Bad _) (fun _ => ?_) | (refine sda ?_ ?_; (focus (first | rfl | (simp; done)))) | refine sda ?_ ?_ | refine conk rfl ?_ | refine ldk rfl ?_ | refine mapk (fun x hx => ?_) | exact ⟨rfl, rfl⟩ | refine nilk (fun h => ?_) ?_ | intro hl))
  all_goals conv => whnf
  all_goals try simp only [tz] at *
  all_goals exfalso
  all_goals omega
theorem days_1 (a : Int) (h1 : 1 ≤ a) (h2 : a ≤ 2958464) : Ret Tryz.prog F_logic_days_1 [.int .i64 a] (eV (whS (a % 7 + 1))) := by
 have hd : Ret Tryz.prog F_date_Weekday [.int .i64 a] (.int .i64 (a % 7 + 1)) := c_date_Weekday a _ (by rw [Dt.Weekday_is, if_pos ⟨h1, h2⟩]) (w64 (by omega))
 refine r_logic_days_1 rfl fun hw => ?_
 clear hw
 repeat' ((conv => whnf); (first | refine csp (fun h => ?_) (fun h => ?_) | refine cllo (hd) (fun _ => ?_) | refine cllo (logic_whole _) (fun _ => ?_) | (refine sda ?_ ?_; (focus (first | rfl | (simp; done)))) | refine sda ?_ ?_ | refine conk rfl ?_ | refine ldk rfl ?_ | refine mapk (fun x hx => ?_) | exact ⟨rfl, rfl⟩ | refine nilk (fun h => ?_) ?_ | intro hl))
 all_goals conv => whnf
noncomputable def wkS (a : Int) : Int := (Dt.thu a - Dt.ah (Lg.prt3 (Dt.thu a)).1 - 1) / 7 + 1
theorem wkS_bd {a : Int} (h1 : 1 ≤ a) (h2 : a ≤ 2958464) : -10000000 ≤ wkS a ∧ wkS a ≤ 10000000 := by
 have ht := Dt.thu_bd h1 h2
 have hi := Lg.Is.bd (Lg.prt3_is (a := Dt.thu a) (by omega) ht.2)
 have ha := Dt.ah_bd (y := (Lg.prt3 (Dt.thu a)).1) (by omega) (by omega)
 unfold wkS
 omega
theorem days_2 (a : Int) (h1 : 1 ≤ a) (h2 : a ≤ 2958464) : Ret Tryz.prog F_logic_days_2 [.int .i64 a] (eV (whS (wkS a))) := by
 have ht := Dt.thu_bd h1 h2
 have hb := wkS_bd h1 h2
 have hd : Ret Tryz.prog F_date_Week [.int .i64 a] (.int .i64 (wkS a)) := c_date_Week a _ (Dt.Week_is h1 h2 (Lg.prt3_is (a := Dt.thu a) (by omega) ht.2)) (w64 (by omega))
 refine r_logic_days_2 rfl fun hw => ?_
 clear hw
 repeat' ((conv => whnf); (first | refine csp (fun h => ?_) (fun h => ?_) | refine cllo (hd) (fun _ => ?_) | refine cllo (logic_whole _) (fun _ => ?_) | (refine sda ?_ ?_; (focus (first | rfl | (simp; done)))) | refine sda ?_ ?_ | refine conk rfl ?_ | refine ldk rfl ?_ | refine mapk (fun x hx => ?_) | exact ⟨rfl, rfl⟩ | refine nilk (fun h => ?_) ?_ | intro hl))
 all_goals conv => whnf
theorem find_6 (a b : Ar) : Ret Tryz.prog F_logic_find_6 [.row false [cA a, cA b]] (eV (if 0 < (dyS (oneS a)).2 then badS (dyS (oneS a)).2 else if 0 < (dyS (oneS b)).2 then badS (dyS (oneS b)).2 else whS (IntKind.i64.wrap ((dyS (oneS a)).1 - (dyS (oneS b)).1)))) := by
 refine r_logic_find_6 rfl fun hw => ?_
 clear hw
 repeat' ((conv => whnf); (first | refine csp (fun h => ?_) (fun h => ?_) | refine cllo (logic_day _) (fun _ => ?_) | refine cllo (value_Bad _) (fun _ => ?_) | refine cllo (logic_whole _) (fun _ => ?_) | (refine sda ?_ ?_; (focus (first | rfl | (simp; done)))) | refine sda ?_ ?_ | refine conk rfl ?_ | refine ldk rfl ?_ | refine mapk (fun x hx => ?_) | exact ⟨rfl, rfl⟩ | refine nilk (fun h => ?_) ?_ | intro hl))
 all_goals conv => whnf
 all_goals try simp only [tz] at *
 ·rw [if_pos h]
 ·rw [if_neg (by omega), if_pos h]
 ·rw [if_neg (by omega), if_neg (by omega)]
theorem kinds_none (nm : ByteArray) (hn : nm ∉ ([⟨#[73, 83, 66, 76, 65, 78, 75]⟩, ⟨#[73, 83, 78, 85, 77, 66, 69, 82]⟩, ⟨#[73, 83, 84, 69, 88, 84]⟩, ⟨#[73, 83, 76, 79, 71, 73, 67, 65, 76]⟩, ⟨#[73, 83, 69, 82, 82, 79, 82]⟩, ⟨#[73, 83, 78, 79, 78, 84, 69, 88, 84]⟩, ⟨#[73, 83, 78, 65]⟩, ⟨#[73, 83, 69, 82, 82]⟩, ⟨#[84, 89, 80, 69]⟩, ⟨#[69, 82, 82, 79, 82, 84, 89, 80, 69]⟩] : List ByteArray)) : Ret Tryz.prog F_logic_kinds [.str nm] .nilFn := by
 simp only [List.mem_cons, List.not_mem_nil, or_false, not_or] at hn
 refine r_logic_kinds rfl fun hw => ?_
 clear hw
 repeat' ((conv => whnf); (first | refine csp (fun h => ?_) (fun h => ?_) | (refine sda ?_ ?_; (focus (first | rfl | (simp; done)))) | refine sda ?_ ?_ | refine conk rfl ?_ | refine ldk rfl ?_ | refine mapk (fun x hx => ?_) | exact ⟨rfl, rfl⟩ | refine nilk (fun h => ?_) ?_ | intro hl))
 all_goals conv => whnf
 all_goals try simp only [tz] at *
 all_goals exfalso
 all_goals subst h
 all_goals simp at hn
theorem days_none (nm : ByteArray) (hn : nm ∉ ([⟨#[89, 69, 65, 82]⟩, ⟨#[77, 79, 78, 84, 72]⟩, ⟨#[68, 65, 89]⟩, ⟨#[87, 69, 69, 75, 68, 65, 89]⟩, ⟨#[87, 69, 69, 75, 78, 85, 77]⟩, ⟨#[68, 65, 84, 69, 84, 69, 88, 84]⟩] : List ByteArray)) : Ret Tryz.prog F_logic_days [.str nm] .nilFn := by
 simp only [List.mem_cons, List.not_mem_nil, or_false, not_or] at hn
 refine r_logic_days rfl fun hw => ?_
 clear hw
 repeat' ((conv => whnf); (first | refine csp (fun h => ?_) (fun h => ?_) | (refine sda ?_ ?_; (focus (first | rfl | (simp; done)))) | refine sda ?_ ?_ | refine conk rfl ?_ | refine ldk rfl ?_ | refine mapk (fun x hx => ?_) | exact ⟨rfl, rfl⟩ | refine nilk (fun h => ?_) ?_ | intro hl))
 all_goals conv => whnf
 all_goals try simp only [tz] at *
 all_goals exfalso
 all_goals subst h
 all_goals simp at hn
def names19 : List ByteArray := [⟨#[65, 78, 68]⟩, ⟨#[79, 82]⟩, ⟨#[88, 79, 82]⟩, ⟨#[78, 79, 84]⟩, ⟨#[84, 82, 85, 69]⟩, ⟨#[70, 65, 76, 83, 69]⟩, ⟨#[78, 65]⟩, ⟨#[68, 65, 84, 69]⟩, ⟨#[69, 68, 65, 84, 69]⟩, ⟨#[69, 79, 77, 79, 78, 84, 72]⟩, ⟨#[68, 65, 89, 83]⟩, ⟨#[68, 65, 84, 69, 86, 65, 76, 85, 69]⟩] ++ ([⟨#[73, 83, 66, 76, 65, 78, 75]⟩, ⟨#[73, 83, 78, 85, 77, 66, 69, 82]⟩, ⟨#[73, 83, 84, 69, 88, 84]⟩, ⟨#[73, 83, 76, 79, 71, 73, 67, 65, 76]⟩, ⟨#[73, 83, 69, 82, 82, 79, 82]⟩, ⟨#[73, 83, 78, 79, 78, 84, 69, 88, 84]⟩, ⟨#[73, 83, 78, 65]⟩, ⟨#[73, 83, 69, 82, 82]⟩, ⟨#[84, 89, 80, 69]⟩, ⟨#[69, 82, 82, 79, 82, 84, 89, 80, 69]⟩] ++ [⟨#[89, 69, 65, 82]⟩, ⟨#[77, 79, 78, 84, 72]⟩, ⟨#[68, 65, 89]⟩, ⟨#[87, 69, 69, 75, 68, 65, 89]⟩, ⟨#[87, 69, 69, 75, 78, 85, 77]⟩, ⟨#[68, 65, 84, 69, 84, 69, 88, 84]⟩])
theorem find_none (nm : ByteArray) (hn : nm ∉ names19) : Ret Tryz.prog F_logic_find [.str nm] (.tup [.nilFn, .int .i64 1]) := by
 have hk : nm ∉ ([⟨#[73, 83, 66, 76, 65, 78, 75]⟩, ⟨#[73, 83, 78, 85, 77, 66, 69, 82]⟩, ⟨#[73, 83, 84, 69, 88, 84]⟩, ⟨#[73, 83, 76, 79, 71, 73, 67, 65, 76]⟩, ⟨#[73, 83, 69, 82, 82, 79, 82]⟩, ⟨#[73, 83, 78, 79, 78, 84, 69, 88, 84]⟩, ⟨#[73, 83, 78, 65]⟩, ⟨#[73, 83, 69, 82, 82]⟩, ⟨#[84, 89, 80, 69]⟩, ⟨#[69, 82, 82, 79, 82, 84, 89, 80, 69]⟩] : List ByteArray) := fun q => hn (List.mem_append_right _ (List.mem_append_left _ q))
 have hd : nm ∉ ([⟨#[89, 69, 65, 82]⟩, ⟨#[77, 79, 78, 84, 72]⟩, ⟨#[68, 65, 89]⟩, ⟨#[87, 69, 69, 75, 68, 65, 89]⟩, ⟨#[87, 69, 69, 75, 78, 85, 77]⟩, ⟨#[68, 65, 84, 69, 84, 69, 88, 84]⟩] : List ByteArray) := fun q => hn (List.mem_append_right _ (List.mem_append_right _ q))
 simp only [names19, List.mem_append, List.mem_cons, List.not_mem_nil, or_false, not_or] at hn
 refine r_logic_find rfl fun hw => ?_
 clear hw
 repeat' ((conv => whnf); (first | refine csp (fun h => ?_) (fun h => ?_) | refine cllo (kinds_none nm hk) (fun _ => ?_) | refine cllo (days_none nm hd) (fun _ => ?_) | (refine sda ?_ ?_; (focus (first | rfl | (simp; done)))) | refine sda ?_ ?_ | refine conk rfl ?_ | refine ldk rfl ?_ | refine mapk (fun x hx => ?_) | exact ⟨rfl, rfl⟩ | refine nilk (fun h => ?_) ?_ | intro hl))
 all_goals conv => whnf
 all_goals try simp only [tz] at *
 all_goals exfalso
 all_goals subst h
 all_goals simp at hn
theorem call_none (nm : ByteArray) (hn : nm ∉ names19) (l : List (List V)) : Ret Tryz.prog F_logic_Call [.str nm, .row false l] (.tup [eV ⟨0, 0, e0⟩, .bool false]) := by
 refine r_logic_Call rfl fun hw => ?_
 clear hw
 repeat' ((conv => whnf); (first | refine csp (fun h => ?_) (fun h => ?_) | refine cllo (find_none nm hn) (fun _ => ?_) | (refine sda ?_ ?_; (focus (first | rfl | (simp; done)))) | refine sda ?_ ?_ | refine conk rfl ?_ | refine ldk rfl ?_ | refine mapk (fun x hx => ?_) | exact ⟨rfl, rfl⟩ | refine nilk (fun h => ?_) ?_ | intro hl))
 all_goals conv => whnf
end Go.Proofs.YtllceoncpgebpaaGreatDoor
set_option maxRecDepth 100000
set_option linter.all false
namespace Go.Proofs.YtllceoncpgebpaaGreatDoor
open Ab R
theorem ref06_Bad (n : Int) : Ret Tryz.prog F_octavoref06_Bad [.int .i64 n] (eV (badS n)) := by
 refine r_octavoref06_Bad rfl fun _ => ?_
 repeat' ((conv => whnf); (first | refine csp (fun h => ?_) (fun h => ?_) | (refine sda ?_ ?_; (focus (first | rfl | (simp; done)))) | refine sda ?_ ?_ | refine conk rfl ?_ | refine ldk rfl ?_ | refine mapk (fun x hx => ?_) | exact ⟨rfl, rfl⟩ | refine nilk (fun h => ?_) ?_ | intro hl))
 all_goals conv => whnf
 all_goals simp_all [badS]
 all_goals omega
theorem ref06_Of (n : Int) (ok : Bool) : Ret Tryz.prog F_octavoref06_Of [.int .i64 n, .bool ok] (eV (ofS n ok)) := by
 refine r_octavoref06_Of rfl fun _ => ?_
 repeat' ((conv => whnf); (first | refine csp (fun h => ?_) (fun h => ?_) | refine cllo (ref05_Good _) (fun _ => ?_) | refine cllo (ref06_Bad _) (fun _ => ?_) | (refine sda ?_ ?_; (focus (first | rfl | (simp; done)))) | refine sda ?_ ?_ | refine conk rfl ?_ | refine ldk rfl ?_ | refine mapk (fun x hx => ?_) | exact ⟨rfl, rfl⟩ | refine nilk (fun h => ?_) ?_ | intro hl))
 all_goals conv => whnf
 all_goals simp_all [ofS]
theorem ref06_Str (s : ByteArray) : Ret Tryz.prog F_octavoref06_Str [.str s] (eV (strS s)) := by
 refine r_octavoref06_Str rfl fun hw => ?_
 clear hw
 repeat' ((conv => whnf); (first | refine csp (fun h => ?_) (fun h => ?_) | refine cllo (ref06_Bad _) (fun _ => ?_) | (refine sda ?_ ?_; (focus (first | rfl | (simp; done)))) | refine sda ?_ ?_ | refine conk rfl ?_ | refine ldk rfl ?_ | refine mapk (fun x hx => ?_) | exact ⟨rfl, rfl⟩ | refine nilk (fun h => ?_) ?_ | intro hl))
 all_goals conv => whnf
 all_goals try simp only [tz] at *
 ·rw [strS, if_pos (by omega)]
 ·rw [strS, if_neg (by omega)]
theorem ref17_One (a : Ar) : Ret Tryz.prog F_octavoref17_One [eA a] (eV (oneS a)) := by
 refine r_octavoref17_One rfl fun hw => ?_
 clear hw
 repeat' ((conv => whnf); (first | refine csp (fun h => ?_) (fun h => ?_) | refine cllo (ref17_Good _) (fun _ => ?_) | refine cllo (ref06_Bad _) (fun _ => ?_) | (refine sda ?_ ?_; (focus (first | rfl | (simp; done)))) | refine sda ?_ ?_ | refine conk rfl ?_ | refine ldk rfl ?_ | refine mapk (fun x hx => ?_) | exact ⟨rfl, rfl⟩ | refine nilk (fun h => ?_) ?_ | intro hl))
 all_goals conv => whnf
 all_goals try simp only [tz] at *
 ·rw [oneS, if_neg (by rw [h]; simp)]
 ·rw [oneS, if_neg (fun q => by omega)]
 ·omega
 ·have hg : goodA a = true := by assumption
  obtain ⟨r, c, l, m⟩ := a
  cases l with
  | nil => cases hx
  | cons y l =>
   cases hx
   rw [oneS, if_pos ⟨by omega, hg⟩]
   rfl
theorem ref05_Parse (s : ByteArray) (h : s.size ≤ 255) : Ret Tryz.prog F_octavoref05_Parse [.str s] (.tup [.int .i64 (Nm.prs s).1, .bool (Nm.prs s).2]) := by
 have hb : -100000000000 ≤ (Nm.prs s).1 ∧ (Nm.prs s).1 ≤ 100000000000 := by
  have out_b : ∀ n : Int, -100000000000 ≤ (Nm.out n).1 ∧ (Nm.out n).1 ≤ 100000000000 := fun n => by
   unfold Nm.out
   split
   ·rename_i h; exact h
   ·simp
  have fin_b : ∀ b W R p, -100000000000 ≤ (Nm.fin b W R p).1 ∧ (Nm.fin b W R p).1 ≤ 100000000000 := fun b W R p => by
   unfold Nm.fin
   split
   ·exact out_b _
   ·simp
  unfold Nm.prs
  split
  ·exact fin_b _ _ _ _
  ·exact fin_b _ _ _ _
 exact c_octavoref05_Parse s _ _ (Nm.rParse_is (by omega)) (w64 (by omega))
theorem rToNum_g (v : GV) (h : goodV v = true) : Ret Tryz.prog F_octavoref06_ToNum [eV v] (.tup [.int .i64 (tn v).1, .int .i64 (tn v).2]) := by
 have hp := ref05_Parse v.s (goodV_size h)
 obtain ⟨k, n, s⟩ := v
 clear h
 refine r_octavoref06_ToNum rfl fun hw => ?_
 clear hw
 repeat' ((conv => whnf); (first | refine csp (fun h => ?_) (fun h => ?_) | refine cllo (hp) (fun _ => ?_) | (refine sda ?_ ?_; (focus (first | rfl | (simp; done)))) | refine sda ?_ ?_ | refine conk rfl ?_ | refine ldk rfl ?_ | refine mapk (fun x hx => ?_) | exact ⟨rfl, rfl⟩ | refine nilk (fun h => ?_) ?_ | intro hl))
 all_goals conv => whnf
 all_goals (try try simp only [tz] at *)
 all_goals (simp_all [tn, Vl.tnum])
theorem rToBool_g (v : GV) (h : goodV v = true) : Ret Tryz.prog F_octavoref06_ToBool [eV v] (.tup [.bool (tb v).1, .int .i64 (tb v).2]) := by
 have hs := goodV_size h
 have ho := Vl.wrd_or v.s
 have hp : Ret Tryz.prog F_octavoref06_Truth [.str v.s] (.int .i64 (Vl.wrd v.s)) := c_octavoref06_Truth v.s _ (Vl.Truth_is (by omega)) (w64 (by omega))
 obtain ⟨k, n, s⟩ := v
 clear h hs
 refine r_octavoref06_ToBool rfl fun hw => ?_
 clear hw
 repeat' ((conv => whnf); (first | refine csp (fun h => ?_) (fun h => ?_) | refine cllo (hp) (fun _ => ?_) | (refine sda ?_ ?_; (focus (first | rfl | (simp; done)))) | refine sda ?_ ?_ | refine conk rfl ?_ | refine ldk rfl ?_ | refine mapk (fun x hx => ?_) | exact ⟨rfl, rfl⟩ | refine nilk (fun h => ?_) ?_ | intro hl))
 all_goals conv => whnf
 all_goals (try try simp only [tz] at *)
 all_goals (simp_all [tb, Vl.tboo])
 ·by_cases c : n = 0 <;> simp [c]
 ·by_cases c : n = 0 <;> simp [c]
 ·rw [if_neg (by omega)]
  simp
theorem ref05_Print (n : Int) (h : -9223372036854775808 ≤ n) (k : n ≤ 9223372036854775807) : Ret Tryz.prog F_octavoref05_Print [.int .i64 n] (.str (Vl.prt n)) :=
 c_octavoref05_Print n _ (Vl.Prt_is h k).2.1 (by have := Vl.prt_sz h k; omega)
theorem rText_g (v : GV) (h : goodV v = true) (hk : ¬ v.k = 4) : Ret Tryz.prog F_octavoref06_Text [eV v] (.str (Vl.txt v.k v.n v.s)) := by
 have hn := goodV_n h
 have hp := ref05_Print v.n (by omega) (by omega)
 obtain ⟨k, n, s⟩ := v
 clear h hn
 refine r_octavoref06_Text rfl fun hw => ?_
 clear hw
 repeat' ((conv => whnf); (first | refine csp (fun h => ?_) (fun h => ?_) | refine cllo (hp) (fun _ => ?_) | (refine sda ?_ ?_; (focus (first | rfl | (simp; done)))) | refine sda ?_ ?_ | refine conk rfl ?_ | refine ldk rfl ?_ | refine mapk (fun x hx => ?_) | exact ⟨rfl, rfl⟩ | refine nilk (fun h => ?_) ?_ | intro hl))
 all_goals conv => whnf
 all_goals (try try simp only [tz] at *)
 all_goals (simp_all [Vl.txt])
theorem rToText_g (v : GV) (h : goodV v = true) : Ret Tryz.prog F_octavoref06_ToText [eV v] (.tup [.str (tx v).1, .int .i64 (tx v).2]) := by
 by_cases hk : v.k = 4
 ·refine r_octavoref06_ToText rfl fun hw => ?_
  clear hw
  repeat' ((conv => whnf); (first | refine csp (fun h => ?_) (fun h => ?_) | (refine sda ?_ ?_; (focus (first | rfl | (simp; done)))) | refine sda ?_ ?_ | refine conk rfl ?_ | refine ldk rfl ?_ | refine mapk (fun x hx => ?_) | exact ⟨rfl, rfl⟩ | refine nilk (fun h => ?_) ?_ | intro hl))
  all_goals conv => whnf
  all_goals (try try simp only [tz] at *)
  all_goals (simp_all [tx, Vl.ttxt])
 ·have hp := rText_g v h hk
  refine r_octavoref06_ToText rfl fun hw => ?_
  clear hw
  repeat' ((conv => whnf); (first | refine csp (fun h => ?_) (fun h => ?_) | refine cllo (hp) (fun _ => ?_) | (refine sda ?_ ?_; (focus (first | rfl | (simp; done)))) | refine sda ?_ ?_ | refine conk rfl ?_ | refine ldk rfl ?_ | refine mapk (fun x hx => ?_) | exact ⟨rfl, rfl⟩ | refine nilk (fun h => ?_) ?_ | intro hl))
  all_goals conv => whnf
  all_goals (try try simp only [tz] at *)
  all_goals (simp_all [tx, Vl.ttxt])
theorem ref05_Whole (n : Int) : Ret Tryz.prog F_octavoref05_Whole [.int .i64 n] (.tup [.int .i64 (wholeS n).1, .bool (wholeS n).2]) := by
 refine r_octavoref05_Whole rfl fun hw => ?_
 clear hw
 repeat' ((conv => whnf); (first | refine csp (fun h => ?_) (fun h => ?_) | refine cllo (ref05_Good _) (fun _ => ?_) | (refine sda ?_ ?_; (focus (first | rfl | (simp; done)))) | refine sda ?_ ?_ | refine conk rfl ?_ | refine ldk rfl ?_ | refine mapk (fun x hx => ?_) | exact ⟨rfl, rfl⟩ | refine nilk (fun h => ?_) ?_ | intro hl))
 all_goals conv => whnf
 all_goals try simp only [tz] at *
 ·rw [wholeS, if_neg (by simp [h])]
 ·rw [wholeS, if_neg (fun q => h q.2)]
 ·have hg : goodN n = true := by assumption
  have hb := tdivb hg
  rw [wholeS, if_pos ⟨hg, by omega⟩, w64 (by omega)]
theorem ref17_Num (a : Ar) : Ret Tryz.prog F_octavoref17_Num [eA a] (.tup [.int .i64 (tn (oneS a)).1, .int .i64 (tn (oneS a)).2]) := by
 refine r_octavoref17_Num rfl fun hw => ?_
 clear hw
 repeat' ((conv => whnf); (first | refine csp (fun h => ?_) (fun h => ?_) | refine cllo (ref17_One _) (fun _ => ?_) | refine cllo (rToNum_g _ (oneS_good a)) (fun _ => ?_) | (refine sda ?_ ?_; (focus (first | rfl | (simp; done)))) | refine sda ?_ ?_ | refine conk rfl ?_ | refine ldk rfl ?_ | refine mapk (fun x hx => ?_) | exact ⟨rfl, rfl⟩ | refine nilk (fun h => ?_) ?_ | intro hl))
 all_goals conv => whnf
def whlS (v : GV) : Int × Int := if 0 < (tn v).2 then (0, (tn v).2) else if (wholeS (tn v).1).2 = true then ((wholeS (tn v).1).1, 0) else (0, 5)
theorem ref17_Whole (a : Ar) : Ret Tryz.prog F_octavoref17_Whole [eA a] (.tup [.int .i64 (whlS (oneS a)).1, .int .i64 (whlS (oneS a)).2]) := by
 have hb := tn_good (oneS_good a)
 refine r_octavoref17_Whole rfl fun hw => ?_
 clear hw
 repeat' ((conv => whnf); (first | refine csp (fun h => ?_) (fun h => ?_) | refine cllo (ref17_Num _) (fun _ => ?_) | refine cllo (ref05_Whole _) (fun _ => ?_) | (refine sda ?_ ?_; (focus (first | rfl | (simp; done)))) | refine sda ?_ ?_ | refine conk rfl ?_ | refine ldk rfl ?_ | refine mapk (fun x hx => ?_) | exact ⟨rfl, rfl⟩ | refine nilk (fun h => ?_) ?_ | intro hl))
 all_goals conv => whnf
 all_goals try simp only [tz] at *
 ·rw [whlS, if_pos (by omega)]
 ·rw [whlS, if_neg (by omega), if_neg (by simp [h])]
 ·rw [whlS, if_neg (by omega), if_pos h]
theorem ref17_Truth (b : Bool) : Ret Tryz.prog F_octavoref17_Truth [.bool b] (eV (truS b)) := by
 refine r_octavoref17_Truth rfl fun hw => ?_
 clear hw
 repeat' ((conv => whnf); (first | refine csp (fun h => ?_) (fun h => ?_) | (refine sda ?_ ?_; (focus (first | rfl | (simp; done)))) | refine sda ?_ ?_ | refine conk rfl ?_ | refine ldk rfl ?_ | refine mapk (fun x hx => ?_) | exact ⟨rfl, rfl⟩ | refine nilk (fun h => ?_) ?_ | intro hl))
 all_goals conv => whnf
 all_goals simp_all [truS]
theorem ref17_Int (k : Int) (h1 : -100000000000 ≤ k ∧ k ≤ 100000000000) : Ret Tryz.prog F_octavoref17_Int [.int .i64 k] (eV (whS k)) := by
 have hw1 := w64 (n := k * 10000) (by omega)
 refine r_octavoref17_Int rfl fun hw => ?_
 clear hw
 repeat' ((conv => whnf); (first | refine csp (fun h => ?_) (fun h => ?_) | refine cllo (ref06_Bad _) (fun _ => ?_) | refine cllo (ref06_Of _ _) (fun _ => ?_) | (refine sda ?_ ?_; (focus (first | rfl | (simp; done)))) | refine sda ?_ ?_ | refine conk rfl ?_ | refine ldk rfl ?_ | refine mapk (fun x hx => ?_) | exact ⟨rfl, rfl⟩ | refine nilk (fun h => ?_) ?_ | intro hl))
 all_goals conv => whnf
 all_goals try simp only [tz] at *
 ·rw [whS, ofS, hw1, if_neg (by simp [goodN]; omega)]
 ·rw [whS, ofS, hw1, if_neg (by simp [goodN]; omega)]
 ·rfl
theorem ref07_Parts (a : Int) (h1 : 1 ≤ a) (h2 : a ≤ 2958464) : Ret Tryz.prog F_octavoref07_Parts [.int .i64 a] (.tup [.int .i64 (Lg.prt3 a).1, .int .i64 (Lg.prt3 a).2.1, .int .i64 (Lg.prt3 a).2.2, .bool true]) := by
 have h := Lg.prt3_is h1 h2
 have := Lg.Is.bd h
 exact c_octavoref07_Parts a _ _ _ _ (Dt.rParts_is h) (w64 (by omega)) (w64 (by omega)) (w64 (by omega))
theorem ref07_Weekday (a : Int) (h1 : 1 ≤ a) (h2 : a ≤ 2958464) : Ret Tryz.prog F_octavoref07_Weekday [.int .i64 a] (.int .i64 (a % 7 + 1)) :=
 c_octavoref07_Weekday a _ (by rw [Dt.rWeekday_is, if_pos ⟨h1, h2⟩]) (w64 (by omega))
theorem ref07_Week (a : Int) (h1 : 1 ≤ a) (h2 : a ≤ 2958464) : Ret Tryz.prog F_octavoref07_Week [.int .i64 a] (.int .i64 (wkS a)) := by
 have ht := Dt.thu_bd h1 h2
 have hb := wkS_bd h1 h2
 exact c_octavoref07_Week a _ (Dt.rWeek_is h1 h2 (Lg.prt3_is (a := Dt.thu a) (by omega) ht.2)) (w64 (by omega))
theorem ref07_Print (a : Int) (h1 : 1 ≤ a) (h2 : a ≤ 2958464) : Ret Tryz.prog F_octavoref07_Print [.int .i64 a] (.str (dtx a)) := by
 have h := Lg.prt3_is h1 h2
 exact c_octavoref07_Print a (dtx a) (Dt.rPrint_is h) (by rw [dtx_size]; decide)
theorem ref07_Parse (s : ByteArray) : Ret Tryz.prog F_octavoref07_Parse [.str s] (.tup [.int .i64 (Dt.parse s).1, .bool (Dt.parse s).2]) := by
 have := parse_bd s
 exact c_octavoref07_Parse s (Dt.parse s).1 (Dt.parse s).2 (Dt.rParse_is s) (w64 (by omega))
theorem ref07_Of (y m d : Int) (b1 : -9223372036854775808 ≤ y ∧ y ≤ 9223372036854775807) (b2 : -9223372036854775808 ≤ m ∧ m ≤ 9223372036854775807) (b3 : -9223372036854775808 ≤ d ∧ d ≤ 9223372036854775807) : Ret Tryz.prog F_octavoref07_Of [.int .i64 y, .int .i64 m, .int .i64 d] (.tup [.int .i64 (Lg.dof y m d).1, .bool (Lg.dof y m d).2]) := by
 have := Lg.dof_bd y m d
 obtain ⟨r, hr1, hr2⟩ := Pure.ofs y m d b1 b2 b3
 rw [← E.uniq (Lg.Of_is y m d) hr1] at hr2
 exact c_octavoref07_Of y m d (Lg.dof y m d).1 (Lg.dof y m d).2 hr2 (w64 (by omega))
theorem ref07_Months (a n : Int) (e : Bool) (h1 : 1 ≤ a) (h2 : a ≤ 2958464) : Ret Tryz.prog F_octavoref07_Months [.int .i64 a, .int .i64 n, .bool e] (.tup [.int .i64 (Lg.mnt a n e).1, .bool (Lg.mnt a n e).2]) := by
 have := Lg.mnt_bd a n e
 have h := Lg.prt3_is h1 h2
 have hm : Go.Proofs.YtllceoncpgebpaaGreatDoorW.PrintWords.Ev (fun k => P.octavoref07_Months.f k a n e) (Lg.mnt a n e) := by
  unfold Lg.mnt
  split
  ·rename_i hf
   exact Dt.rMonths_far e h (by simpa [Lg.far] using hf)
  ·rename_i hf
   exact Dt.rMonths_is e h (by simp [Lg.far] at hf; omega) (by simp [Lg.far] at hf; omega)
 exact c_octavoref07_Months a n e (Lg.mnt a n e).1 (Lg.mnt a n e).2 hm (w64 (by omega))
theorem dyS_pos {v : GV} (h : goodV v = true) : 0 ≤ (dyS v).2 ∧ (dyS v).2 ≤ 8 := by
 have := tn_good h
 unfold dyS
 split
 ·simp only; omega
 ·split <;> simp
theorem dyS_rng {v : GV} : 0 ≤ (dyS v).1 ∧ (dyS v).1 ≤ 2958464 := by
 unfold dyS
 split
 ·simp
 ·split
  ·simp
  ·simp only; omega
theorem whlS_pos (a : Ar) : (0 ≤ (whlS (oneS a)).2 ∧ (whlS (oneS a)).2 ≤ 8) ∧ -10000000 ≤ (whlS (oneS a)).1 ∧ (whlS (oneS a)).1 ≤ 10000000 := by
 have h := tn_good (oneS_good a)
 have hb := tdivb h.1
 unfold whlS
 split
 ·simp only; omega
 ·split
  ·simp only [wholeS]
   split <;> simp <;> omega
  ·simp
theorem stI_whl (st : List Int × Int) (a : Ar) : stI st a = if st.2 ≠ 0 then st else if 0 < (whlS (oneS a)).2 then ([], (whlS (oneS a)).2) else (st.1 ++ [(whlS (oneS a)).1], 0) := by
 have h := tn_good (oneS_good a)
 unfold stI whlS
 split
 ·rfl
 ·split
  ·rename_i h1
   simp [h1]
  ·split <;> simp
theorem ints1 (b : Ar) : (intsL [b]).2 = (whlS (oneS b)).2 ∧ ((whlS (oneS b)).2 ≤ 0 → (intsL [b]).1.getD 0 0 = (whlS (oneS b)).1) := by
 have hp := (whlS_pos b).1
 have e : intsL [b] = stI ([], 0) b := rfl
 rw [e, stI_whl]
 simp only [ne_eq, not_true_eq_false, if_false]
 split
 ·refine ⟨rfl, fun q => by omega⟩
 ·refine ⟨by simp only; omega, fun _ => rfl⟩
theorem date3 (a b c : Ar) : dateS [a, b, c] = if 0 < (whlS (oneS a)).2 then badS (whlS (oneS a)).2 else if 0 < (whlS (oneS b)).2 then badS (whlS (oneS b)).2 else if 0 < (whlS (oneS c)).2 then badS (whlS (oneS c)).2 else toldS (Lg.dof (whlS (oneS a)).1 (whlS (oneS b)).1 (whlS (oneS c)).1).1 (Lg.dof (whlS (oneS a)).1 (whlS (oneS b)).1 (whlS (oneS c)).1).2 := by
 have e : intsL [a, b, c] = stI (stI (stI ([], 0) a) b) c := rfl
 unfold dateS
 rw [e]
 by_cases h1 : 0 < (whlS (oneS a)).2
 ·have e1 : stI ([], 0) a = ([], (whlS (oneS a)).2) := by rw [stI_whl]; simp [h1]
  rw [e1, stI_whl _ b, if_pos (show (whlS (oneS a)).2 ≠ 0 by omega), stI_whl _ c, if_pos (show (whlS (oneS a)).2 ≠ 0 by omega), if_pos h1, if_pos h1]
 ·have e1 : stI ([], 0) a = ([(whlS (oneS a)).1], 0) := by rw [stI_whl]; simp [h1]
  rw [e1, if_neg h1]
  by_cases h2 : 0 < (whlS (oneS b)).2
  ·have e2 : stI ([(whlS (oneS a)).1], 0) b = ([], (whlS (oneS b)).2) := by rw [stI_whl]; simp [h2]
   rw [e2, stI_whl _ c, if_pos (show (whlS (oneS b)).2 ≠ 0 by omega), if_pos h2, if_pos h2]
  ·have e2 : stI ([(whlS (oneS a)).1], 0) b = ([(whlS (oneS a)).1, (whlS (oneS b)).1], 0) := by rw [stI_whl]; simp [h2]
   rw [e2, if_neg h2]
   by_cases h3 : 0 < (whlS (oneS c)).2
   ·have e3 : stI ([(whlS (oneS a)).1, (whlS (oneS b)).1], 0) c = ([], (whlS (oneS c)).2) := by rw [stI_whl]; simp [h3]
    rw [e3, if_pos h3, if_pos h3]
   ·have e3 : stI ([(whlS (oneS a)).1, (whlS (oneS b)).1], 0) c = ([(whlS (oneS a)).1, (whlS (oneS b)).1, (whlS (oneS c)).1], 0) := by rw [stI_whl]; simp [h3]
    rw [e3, if_neg h3, if_neg (by simp)]
    rfl
end Go.Proofs.YtllceoncpgebpaaGreatDoor
set_option maxRecDepth 100000
set_option linter.all false
namespace Go.Proofs.YtllceoncpgebpaaGreatDoor
open Ab R
theorem ref19_bad (n : Int) : Ret Tryz.prog F_octavoref19_bad [.int .i64 n] (eV (badS n)) := by
 refine r_octavoref19_bad rfl fun hw => ?_
 clear hw
 repeat' ((conv => whnf); (first | refine csp (fun h => ?_) (fun h => ?_) | refine cllo (ref06_Bad _) (fun _ => ?_) | (refine sda ?_ ?_; (focus (first | rfl | (simp; done)))) | refine sda ?_ ?_ | refine conk rfl ?_ | refine ldk rfl ?_ | refine mapk (fun x hx => ?_) | exact ⟨rfl, rfl⟩ | refine nilk (fun h => ?_) ?_ | intro hl))
 all_goals conv => whnf
theorem ref19_told (d : Int) (ok : Bool) (h1 : -100000000000 ≤ d ∧ d ≤ 100000000000) : Ret Tryz.prog F_octavoref19_told [.int .i64 d, .bool ok] (eV (toldS d ok)) := by
 refine r_octavoref19_told rfl fun hw => ?_
 clear hw
 repeat' ((conv => whnf); (first | refine csp (fun h => ?_) (fun h => ?_) | refine cllo (ref19_bad _) (fun _ => ?_) | refine cllo (ref17_Int _ h1) (fun _ => ?_) | (refine sda ?_ ?_; (focus (first | rfl | (simp; done)))) | refine sda ?_ ?_ | refine conk rfl ?_ | refine ldk rfl ?_ | refine mapk (fun x hx => ?_) | exact ⟨rfl, rfl⟩ | refine nilk (fun h => ?_) ?_ | intro hl))
 all_goals conv => whnf
 all_goals simp_all [toldS]
theorem ref19_day (a : Ar) : Ret Tryz.prog F_octavoref19_day [eA a] (.tup [.int .i64 (dyS (oneS a)).1, .int .i64 (dyS (oneS a)).2]) := by
 refine r_octavoref19_day rfl fun hw => ?_
 clear hw
 have ht := tn_good (oneS_good a)
 have hb := ht.1
 simp only [goodN, decide_eq_true_eq] at hb
 have hw : IntKind.i64.wrap ((tn (oneS a)).1.tdiv 10000) = (tn (oneS a)).1.tdiv 10000 := w64 (by
  have := tdivb (n := (tn (oneS a)).1) (by simp only [goodN, decide_eq_true_eq]; exact hb)
  omega)
 repeat' ((conv => whnf); (first | refine csp (fun h => ?_) (fun h => ?_) | refine cllo (ref17_Num _) (fun _ => ?_) | (refine sda ?_ ?_; (focus (first | rfl | (simp; done)))) | refine sda ?_ ?_ | refine conk rfl ?_ | refine ldk rfl ?_ | refine mapk (fun x hx => ?_) | exact ⟨rfl, rfl⟩ | refine nilk (fun h => ?_) ?_ | intro hl))
 all_goals conv => whnf
 all_goals try simp only [tz] at *
 ·rw [dyS, if_pos (by omega)]
 ·rw [hw] at h
  rw [dyS, if_neg (by omega), if_pos (.inl h)]
 ·rw [hw] at h
  rw [dyS, if_neg (by omega), if_pos (.inr h)]
 ·simp only [hw] at *
  rw [dyS, if_neg (by omega), if_neg (by omega)]
theorem rod_YEAR (a : Int) (h1 : 1 ≤ a) (h2 : a ≤ 2958464) : Ret Tryz.prog F_octavoref19_ofDay [.str ⟨#[89, 69, 65, 82]⟩, .int .i64 a] (eV (whS (Lg.prt3 a).1)) := by
 have hb := Lg.Is.bd (Lg.prt3_is h1 h2)
 have hk := wkS_bd h1 h2
 refine r_octavoref19_ofDay rfl fun hw => ?_
 clear hw
 repeat' ((conv => whnf); (first | refine csp (fun h => ?_) (fun h => ?_) | refine cllo (ref07_Parts _ h1 h2) (fun _ => ?_) | refine cllo (ref17_Int _ (by omega)) (fun _ => ?_) | (refine sda ?_ ?_; (focus (first | rfl | (simp; done)))) | refine sda ?_ ?_ | refine conk rfl ?_ | refine ldk rfl ?_ | refine mapk (fun x hx => ?_) | exact ⟨rfl, rfl⟩ | refine nilk (fun h => ?_) ?_ | intro hl))
 all_goals conv => whnf
theorem rod_MONTH (a : Int) (h1 : 1 ≤ a) (h2 : a ≤ 2958464) : Ret Tryz.prog F_octavoref19_ofDay [.str ⟨#[77, 79, 78, 84, 72]⟩, .int .i64 a] (eV (whS (Lg.prt3 a).2.1)) := by
 have hb := Lg.Is.bd (Lg.prt3_is h1 h2)
 have hk := wkS_bd h1 h2
 refine r_octavoref19_ofDay rfl fun hw => ?_
 clear hw
 repeat' ((conv => whnf); (first | refine csp (fun h => ?_) (fun h => ?_) | refine cllo (ref07_Parts _ h1 h2) (fun _ => ?_) | refine cllo (ref17_Int _ (by omega)) (fun _ => ?_) | (refine sda ?_ ?_; (focus (first | rfl | (simp; done)))) | refine sda ?_ ?_ | refine conk rfl ?_ | refine ldk rfl ?_ | refine mapk (fun x hx => ?_) | exact ⟨rfl, rfl⟩ | refine nilk (fun h => ?_) ?_ | intro hl))
 all_goals conv => whnf
theorem rod_DAY (a : Int) (h1 : 1 ≤ a) (h2 : a ≤ 2958464) : Ret Tryz.prog F_octavoref19_ofDay [.str ⟨#[68, 65, 89]⟩, .int .i64 a] (eV (whS (Lg.prt3 a).2.2)) := by
 have hb := Lg.Is.bd (Lg.prt3_is h1 h2)
 have hk := wkS_bd h1 h2
 refine r_octavoref19_ofDay rfl fun hw => ?_
 clear hw
 repeat' ((conv => whnf); (first | refine csp (fun h => ?_) (fun h => ?_) | refine cllo (ref07_Parts _ h1 h2) (fun _ => ?_) | refine cllo (ref17_Int _ (by omega)) (fun _ => ?_) | (refine sda ?_ ?_; (focus (first | rfl | (simp; done)))) | refine sda ?_ ?_ | refine conk rfl ?_ | refine ldk rfl ?_ | refine mapk (fun x hx => ?_) | exact ⟨rfl, rfl⟩ | refine nilk (fun h => ?_) ?_ | intro hl))
 all_goals conv => whnf
theorem rod_WEEKDAY (a : Int) (h1 : 1 ≤ a) (h2 : a ≤ 2958464) : Ret Tryz.prog F_octavoref19_ofDay [.str ⟨#[87, 69, 69, 75, 68, 65, 89]⟩, .int .i64 a] (eV (whS (a % 7 + 1))) := by
 have hb := Lg.Is.bd (Lg.prt3_is h1 h2)
 have hk := wkS_bd h1 h2
 refine r_octavoref19_ofDay rfl fun hw => ?_
 clear hw
 repeat' ((conv => whnf); (first | refine csp (fun h => ?_) (fun h => ?_) | refine cllo (ref07_Parts _ h1 h2) (fun _ => ?_) | refine cllo (ref07_Weekday _ h1 h2) (fun _ => ?_) | refine cllo (ref17_Int _ (by omega)) (fun _ => ?_) | (refine sda ?_ ?_; (focus (first | rfl | (simp; done)))) | refine sda ?_ ?_ | refine conk rfl ?_ | refine ldk rfl ?_ | refine mapk (fun x hx => ?_) | exact ⟨rfl, rfl⟩ | refine nilk (fun h => ?_) ?_ | intro hl))
 all_goals conv => whnf
theorem rod_WEEKNUM (a : Int) (h1 : 1 ≤ a) (h2 : a ≤ 2958464) : Ret Tryz.prog F_octavoref19_ofDay [.str ⟨#[87, 69, 69, 75, 78, 85, 77]⟩, .int .i64 a] (eV (whS (wkS a))) := by
 have hb := Lg.Is.bd (Lg.prt3_is h1 h2)
 have hk := wkS_bd h1 h2
 refine r_octavoref19_ofDay rfl fun hw => ?_
 clear hw
 repeat' ((conv => whnf); (first | refine csp (fun h => ?_) (fun h => ?_) | refine cllo (ref07_Parts _ h1 h2) (fun _ => ?_) | refine cllo (ref07_Week _ h1 h2) (fun _ => ?_) | refine cllo (ref17_Int _ (by omega)) (fun _ => ?_) | (refine sda ?_ ?_; (focus (first | rfl | (simp; done)))) | refine sda ?_ ?_ | refine conk rfl ?_ | refine ldk rfl ?_ | refine mapk (fun x hx => ?_) | exact ⟨rfl, rfl⟩ | refine nilk (fun h => ?_) ?_ | intro hl))
 all_goals conv => whnf
theorem rod_DATETEXT (a : Int) (h1 : 1 ≤ a) (h2 : a ≤ 2958464) : Ret Tryz.prog F_octavoref19_ofDay [.str ⟨#[68, 65, 84, 69, 84, 69, 88, 84]⟩, .int .i64 a] (eV (⟨2, 0, dtx a⟩)) := by
 have hb := Lg.Is.bd (Lg.prt3_is h1 h2)
 have hk := wkS_bd h1 h2
 refine r_octavoref19_ofDay rfl fun hw => ?_
 clear hw
 repeat' ((conv => whnf); (first | refine csp (fun h => ?_) (fun h => ?_) | refine cllo (ref07_Parts _ h1 h2) (fun _ => ?_) | refine cllo (ref07_Print _ h1 h2) (fun _ => ?_) | refine cllo (ref06_Str _) (fun _ => ?_) | (refine sda ?_ ?_; (focus (first | rfl | (simp; done)))) | refine sda ?_ ?_ | refine conk rfl ?_ | refine ldk rfl ?_ | refine mapk (fun x hx => ?_) | exact ⟨rfl, rfl⟩ | refine nilk (fun h => ?_) ?_ | intro hl))
 all_goals conv => whnf
 all_goals rw [strS, if_neg (by rw [dtx_size]; decide)]
theorem goodV_4 {v : GV} (h : goodV v = true) (k : v.k = 4) : v.s = e0 := by
 unfold goodV at h
 rw [if_neg (by omega), if_neg (by omega), if_neg (by omega), if_neg (by omega), if_pos k] at h
 exact (of_decide_eq_true h).2.2
theorem rkd_ISBLANK (v : GV) (hv : goodV v = true) : Ret Tryz.prog F_octavoref19_kind [.str ⟨#[73, 83, 66, 76, 65, 78, 75]⟩, eV v] (eV (truS (decide (v.k = 0)))) := by
 have hn := goodV_n hv
 have h4 := goodV_4 hv
 refine r_octavoref19_kind rfl fun hw => ?_
 clear hw
 repeat' ((conv => whnf); (first | refine csp (fun h => ?_) (fun h => ?_) | refine cllo (ref17_Truth _) (fun _ => ?_) | refine cllo (ref17_Int _ (by omega)) (fun _ => ?_) | refine cllo (ref19_bad _) (fun _ => ?_) | (refine sda ?_ ?_; (focus (first | rfl | (simp; done)))) | refine sda ?_ ?_ | refine conk rfl ?_ | refine ldk rfl ?_ | refine mapk (fun x hx => ?_) | exact ⟨rfl, rfl⟩ | refine nilk (fun h => ?_) ?_ | intro hl))
 all_goals conv => whnf
 all_goals (try try simp only [tz] at *)
 all_goals (try simp_all [typS])
theorem rkd_ISNUMBER (v : GV) (hv : goodV v = true) : Ret Tryz.prog F_octavoref19_kind [.str ⟨#[73, 83, 78, 85, 77, 66, 69, 82]⟩, eV v] (eV (truS (decide (v.k = 1)))) := by
 have hn := goodV_n hv
 have h4 := goodV_4 hv
 refine r_octavoref19_kind rfl fun hw => ?_
 clear hw
 repeat' ((conv => whnf); (first | refine csp (fun h => ?_) (fun h => ?_) | refine cllo (ref17_Truth _) (fun _ => ?_) | refine cllo (ref17_Int _ (by omega)) (fun _ => ?_) | refine cllo (ref19_bad _) (fun _ => ?_) | (refine sda ?_ ?_; (focus (first | rfl | (simp; done)))) | refine sda ?_ ?_ | refine conk rfl ?_ | refine ldk rfl ?_ | refine mapk (fun x hx => ?_) | exact ⟨rfl, rfl⟩ | refine nilk (fun h => ?_) ?_ | intro hl))
 all_goals conv => whnf
 all_goals (try try simp only [tz] at *)
 all_goals (try simp_all [typS])
theorem rkd_ISTEXT (v : GV) (hv : goodV v = true) : Ret Tryz.prog F_octavoref19_kind [.str ⟨#[73, 83, 84, 69, 88, 84]⟩, eV v] (eV (truS (decide (v.k = 2)))) := by
 have hn := goodV_n hv
 have h4 := goodV_4 hv
 refine r_octavoref19_kind rfl fun hw => ?_
 clear hw
 repeat' ((conv => whnf); (first | refine csp (fun h => ?_) (fun h => ?_) | refine cllo (ref17_Truth _) (fun _ => ?_) | refine cllo (ref17_Int _ (by omega)) (fun _ => ?_) | refine cllo (ref19_bad _) (fun _ => ?_) | (refine sda ?_ ?_; (focus (first | rfl | (simp; done)))) | refine sda ?_ ?_ | refine conk rfl ?_ | refine ldk rfl ?_ | refine mapk (fun x hx => ?_) | exact ⟨rfl, rfl⟩ | refine nilk (fun h => ?_) ?_ | intro hl))
 all_goals conv => whnf
 all_goals (try try simp only [tz] at *)
 all_goals (try simp_all [typS])
theorem rkd_ISLOGICAL (v : GV) (hv : goodV v = true) : Ret Tryz.prog F_octavoref19_kind [.str ⟨#[73, 83, 76, 79, 71, 73, 67, 65, 76]⟩, eV v] (eV (truS (decide (v.k = 3)))) := by
 have hn := goodV_n hv
 have h4 := goodV_4 hv
 refine r_octavoref19_kind rfl fun hw => ?_
 clear hw
 repeat' ((conv => whnf); (first | refine csp (fun h => ?_) (fun h => ?_) | refine cllo (ref17_Truth _) (fun _ => ?_) | refine cllo (ref17_Int _ (by omega)) (fun _ => ?_) | refine cllo (ref19_bad _) (fun _ => ?_) | (refine sda ?_ ?_; (focus (first | rfl | (simp; done)))) | refine sda ?_ ?_ | refine conk rfl ?_ | refine ldk rfl ?_ | refine mapk (fun x hx => ?_) | exact ⟨rfl, rfl⟩ | refine nilk (fun h => ?_) ?_ | intro hl))
 all_goals conv => whnf
 all_goals (try try simp only [tz] at *)
 all_goals (try simp_all [typS])
theorem rkd_ISERROR (v : GV) (hv : goodV v = true) : Ret Tryz.prog F_octavoref19_kind [.str ⟨#[73, 83, 69, 82, 82, 79, 82]⟩, eV v] (eV (truS (decide (v.k = 4)))) := by
 have hn := goodV_n hv
 have h4 := goodV_4 hv
 refine r_octavoref19_kind rfl fun hw => ?_
 clear hw
 repeat' ((conv => whnf); (first | refine csp (fun h => ?_) (fun h => ?_) | refine cllo (ref17_Truth _) (fun _ => ?_) | refine cllo (ref17_Int _ (by omega)) (fun _ => ?_) | refine cllo (ref19_bad _) (fun _ => ?_) | (refine sda ?_ ?_; (focus (first | rfl | (simp; done)))) | refine sda ?_ ?_ | refine conk rfl ?_ | refine ldk rfl ?_ | refine mapk (fun x hx => ?_) | exact ⟨rfl, rfl⟩ | refine nilk (fun h => ?_) ?_ | intro hl))
 all_goals conv => whnf
 all_goals (try try simp only [tz] at *)
 all_goals (try simp_all [typS])
theorem rkd_ISNA (v : GV) (hv : goodV v = true) : Ret Tryz.prog F_octavoref19_kind [.str ⟨#[73, 83, 78, 65]⟩, eV v] (eV (truS (decide (v.k = 4) && (decide (v.n = 6) && decide (v.s = e0))))) := by
 have hn := goodV_n hv
 have h4 := goodV_4 hv
 refine r_octavoref19_kind rfl fun hw => ?_
 clear hw
 repeat' ((conv => whnf); (first | refine csp (fun h => ?_) (fun h => ?_) | refine cllo (ref17_Truth _) (fun _ => ?_) | refine cllo (ref17_Int _ (by omega)) (fun _ => ?_) | refine cllo (ref19_bad _) (fun _ => ?_) | (refine sda ?_ ?_; (focus (first | rfl | (simp; done)))) | refine sda ?_ ?_ | refine conk rfl ?_ | refine ldk rfl ?_ | refine mapk (fun x hx => ?_) | exact ⟨rfl, rfl⟩ | refine nilk (fun h => ?_) ?_ | intro hl))
 all_goals conv => whnf
 all_goals (try try simp only [tz] at *)
 all_goals (try simp_all [typS])
theorem rkd_ISERR (v : GV) (hv : goodV v = true) : Ret Tryz.prog F_octavoref19_kind [.str ⟨#[73, 83, 69, 82, 82]⟩, eV v] (eV (truS (decide (v.k = 4) && !decide (v.n = 6)))) := by
 have hn := goodV_n hv
 have h4 := goodV_4 hv
 refine r_octavoref19_kind rfl fun hw => ?_
 clear hw
 repeat' ((conv => whnf); (first | refine csp (fun h => ?_) (fun h => ?_) | refine cllo (ref17_Truth _) (fun _ => ?_) | refine cllo (ref17_Int _ (by omega)) (fun _ => ?_) | refine cllo (ref19_bad _) (fun _ => ?_) | (refine sda ?_ ?_; (focus (first | rfl | (simp; done)))) | refine sda ?_ ?_ | refine conk rfl ?_ | refine ldk rfl ?_ | refine mapk (fun x hx => ?_) | exact ⟨rfl, rfl⟩ | refine nilk (fun h => ?_) ?_ | intro hl))
 all_goals conv => whnf
 all_goals (try try simp only [tz] at *)
 all_goals (try simp_all [typS])
theorem rkd_ISNONTEXT (v : GV) (hv : goodV v = true) : Ret Tryz.prog F_octavoref19_kind [.str ⟨#[73, 83, 78, 79, 78, 84, 69, 88, 84]⟩, eV v] (eV (truS (!decide (v.k = 2)))) := by
 have hn := goodV_n hv
 have h4 := goodV_4 hv
 refine r_octavoref19_kind rfl fun hw => ?_
 clear hw
 repeat' ((conv => whnf); (first | refine csp (fun h => ?_) (fun h => ?_) | refine cllo (ref17_Truth _) (fun _ => ?_) | refine cllo (ref17_Int _ (by omega)) (fun _ => ?_) | refine cllo (ref19_bad _) (fun _ => ?_) | (refine sda ?_ ?_; (focus (first | rfl | (simp; done)))) | refine sda ?_ ?_ | refine conk rfl ?_ | refine ldk rfl ?_ | refine mapk (fun x hx => ?_) | exact ⟨rfl, rfl⟩ | refine nilk (fun h => ?_) ?_ | intro hl))
 all_goals conv => whnf
 all_goals (try try simp only [tz] at *)
 all_goals (try simp_all [typS])
theorem rkd_TYPE (v : GV) (hv : goodV v = true) : Ret Tryz.prog F_octavoref19_kind [.str ⟨#[84, 89, 80, 69]⟩, eV v] (eV (whS (typS v))) := by
 have hn := goodV_n hv
 have h4 := goodV_4 hv
 refine r_octavoref19_kind rfl fun hw => ?_
 clear hw
 repeat' ((conv => whnf); (first | refine csp (fun h => ?_) (fun h => ?_) | refine cllo (ref17_Truth _) (fun _ => ?_) | refine cllo (ref17_Int _ (by omega)) (fun _ => ?_) | refine cllo (ref19_bad _) (fun _ => ?_) | (refine sda ?_ ?_; (focus (first | rfl | (simp; done)))) | refine sda ?_ ?_ | refine conk rfl ?_ | refine ldk rfl ?_ | refine mapk (fun x hx => ?_) | exact ⟨rfl, rfl⟩ | refine nilk (fun h => ?_) ?_ | intro hl))
 all_goals conv => whnf
 all_goals (try try simp only [tz] at *)
 all_goals (try simp_all [typS])
theorem rkd_ERRORTYPE (v : GV) (hv : goodV v = true) : Ret Tryz.prog F_octavoref19_kind [.str ⟨#[69, 82, 82, 79, 82, 84, 89, 80, 69]⟩, eV v] (eV (if v.k = 4 then whS v.n else badS 6)) := by
 have hn := goodV_n hv
 have h4 := goodV_4 hv
 refine r_octavoref19_kind rfl fun hw => ?_
 clear hw
 repeat' ((conv => whnf); (first | refine csp (fun h => ?_) (fun h => ?_) | refine cllo (ref17_Truth _) (fun _ => ?_) | refine cllo (ref17_Int _ (by omega)) (fun _ => ?_) | refine cllo (ref19_bad _) (fun _ => ?_) | (refine sda ?_ ?_; (focus (first | rfl | (simp; done)))) | refine sda ?_ ?_ | refine conk rfl ?_ | refine ldk rfl ?_ | refine mapk (fun x hx => ?_) | exact ⟨rfl, rfl⟩ | refine nilk (fun h => ?_) ?_ | intro hl))
 all_goals conv => whnf
 all_goals (try try simp only [tz] at *)
 all_goals (try simp_all [typS])
theorem rct_1 {nm : ByteArray} (hn : nm ∉ ([⟨#[65, 78, 68]⟩, ⟨#[79, 82]⟩, ⟨#[88, 79, 82]⟩, ⟨#[84, 82, 85, 69]⟩, ⟨#[70, 65, 76, 83, 69]⟩, ⟨#[78, 65]⟩, ⟨#[68, 65, 84, 69]⟩, ⟨#[69, 68, 65, 84, 69]⟩, ⟨#[69, 79, 77, 79, 78, 84, 72]⟩, ⟨#[68, 65, 89, 83]⟩] : List ByteArray)) : Ret Tryz.prog F_octavoref19_count [.str nm] (.int .i64 1) := by
 simp only [List.mem_cons, List.not_mem_nil, or_false, not_or] at hn
 refine r_octavoref19_count rfl fun hw => ?_
 clear hw
 repeat' ((conv => whnf); (first | refine csp (fun h => ?_) (fun h => ?_) | (refine sda ?_ ?_; (focus (first | rfl | (simp; done)))) | refine sda ?_ ?_ | refine conk rfl ?_ | refine ldk rfl ?_ | refine mapk (fun x hx => ?_) | exact ⟨rfl, rfl⟩ | refine nilk (fun h => ?_) ?_ | intro hl))
 all_goals conv => whnf
 all_goals try simp only [tz] at *
 all_goals exfalso
 all_goals subst h
 all_goals simp at hn
theorem rct_AND : Ret Tryz.prog F_octavoref19_count [.str ⟨#[65, 78, 68]⟩] (.int .i64 (-1)) := by
 refine r_octavoref19_count rfl fun hw => ?_
 clear hw
 repeat' ((conv => whnf); (first | refine csp (fun h => ?_) (fun h => ?_) | (refine sda ?_ ?_; (focus (first | rfl | (simp; done)))) | refine sda ?_ ?_ | refine conk rfl ?_ | refine ldk rfl ?_ | refine mapk (fun x hx => ?_) | exact ⟨rfl, rfl⟩ | refine nilk (fun h => ?_) ?_ | intro hl))
 all_goals conv => whnf
theorem rct_OR : Ret Tryz.prog F_octavoref19_count [.str ⟨#[79, 82]⟩] (.int .i64 (-1)) := by
 refine r_octavoref19_count rfl fun hw => ?_
 clear hw
 repeat' ((conv => whnf); (first | refine csp (fun h => ?_) (fun h => ?_) | (refine sda ?_ ?_; (focus (first | rfl | (simp; done)))) | refine sda ?_ ?_ | refine conk rfl ?_ | refine ldk rfl ?_ | refine mapk (fun x hx => ?_) | exact ⟨rfl, rfl⟩ | refine nilk (fun h => ?_) ?_ | intro hl))
 all_goals conv => whnf
theorem rct_XOR : Ret Tryz.prog F_octavoref19_count [.str ⟨#[88, 79, 82]⟩] (.int .i64 (-1)) := by
 refine r_octavoref19_count rfl fun hw => ?_
 clear hw
 repeat' ((conv => whnf); (first | refine csp (fun h => ?_) (fun h => ?_) | (refine sda ?_ ?_; (focus (first | rfl | (simp; done)))) | refine sda ?_ ?_ | refine conk rfl ?_ | refine ldk rfl ?_ | refine mapk (fun x hx => ?_) | exact ⟨rfl, rfl⟩ | refine nilk (fun h => ?_) ?_ | intro hl))
 all_goals conv => whnf
theorem rct_TRUE : Ret Tryz.prog F_octavoref19_count [.str ⟨#[84, 82, 85, 69]⟩] (.int .i64 (0)) := by
 refine r_octavoref19_count rfl fun hw => ?_
 clear hw
 repeat' ((conv => whnf); (first | refine csp (fun h => ?_) (fun h => ?_) | (refine sda ?_ ?_; (focus (first | rfl | (simp; done)))) | refine sda ?_ ?_ | refine conk rfl ?_ | refine ldk rfl ?_ | refine mapk (fun x hx => ?_) | exact ⟨rfl, rfl⟩ | refine nilk (fun h => ?_) ?_ | intro hl))
 all_goals conv => whnf
theorem rct_FALSE : Ret Tryz.prog F_octavoref19_count [.str ⟨#[70, 65, 76, 83, 69]⟩] (.int .i64 (0)) := by
 refine r_octavoref19_count rfl fun hw => ?_
 clear hw
 repeat' ((conv => whnf); (first | refine csp (fun h => ?_) (fun h => ?_) | (refine sda ?_ ?_; (focus (first | rfl | (simp; done)))) | refine sda ?_ ?_ | refine conk rfl ?_ | refine ldk rfl ?_ | refine mapk (fun x hx => ?_) | exact ⟨rfl, rfl⟩ | refine nilk (fun h => ?_) ?_ | intro hl))
 all_goals conv => whnf
theorem rct_NA : Ret Tryz.prog F_octavoref19_count [.str ⟨#[78, 65]⟩] (.int .i64 (0)) := by
 refine r_octavoref19_count rfl fun hw => ?_
 clear hw
 repeat' ((conv => whnf); (first | refine csp (fun h => ?_) (fun h => ?_) | (refine sda ?_ ?_; (focus (first | rfl | (simp; done)))) | refine sda ?_ ?_ | refine conk rfl ?_ | refine ldk rfl ?_ | refine mapk (fun x hx => ?_) | exact ⟨rfl, rfl⟩ | refine nilk (fun h => ?_) ?_ | intro hl))
 all_goals conv => whnf
theorem rct_DATE : Ret Tryz.prog F_octavoref19_count [.str ⟨#[68, 65, 84, 69]⟩] (.int .i64 (3)) := by
 refine r_octavoref19_count rfl fun hw => ?_
 clear hw
 repeat' ((conv => whnf); (first | refine csp (fun h => ?_) (fun h => ?_) | (refine sda ?_ ?_; (focus (first | rfl | (simp; done)))) | refine sda ?_ ?_ | refine conk rfl ?_ | refine ldk rfl ?_ | refine mapk (fun x hx => ?_) | exact ⟨rfl, rfl⟩ | refine nilk (fun h => ?_) ?_ | intro hl))
 all_goals conv => whnf
theorem rct_EDATE : Ret Tryz.prog F_octavoref19_count [.str ⟨#[69, 68, 65, 84, 69]⟩] (.int .i64 (2)) := by
 refine r_octavoref19_count rfl fun hw => ?_
 clear hw
 repeat' ((conv => whnf); (first | refine csp (fun h => ?_) (fun h => ?_) | (refine sda ?_ ?_; (focus (first | rfl | (simp; done)))) | refine sda ?_ ?_ | refine conk rfl ?_ | refine ldk rfl ?_ | refine mapk (fun x hx => ?_) | exact ⟨rfl, rfl⟩ | refine nilk (fun h => ?_) ?_ | intro hl))
 all_goals conv => whnf
theorem rct_EOMONTH : Ret Tryz.prog F_octavoref19_count [.str ⟨#[69, 79, 77, 79, 78, 84, 72]⟩] (.int .i64 (2)) := by
 refine r_octavoref19_count rfl fun hw => ?_
 clear hw
 repeat' ((conv => whnf); (first | refine csp (fun h => ?_) (fun h => ?_) | (refine sda ?_ ?_; (focus (first | rfl | (simp; done)))) | refine sda ?_ ?_ | refine conk rfl ?_ | refine ldk rfl ?_ | refine mapk (fun x hx => ?_) | exact ⟨rfl, rfl⟩ | refine nilk (fun h => ?_) ?_ | intro hl))
 all_goals conv => whnf
theorem rct_DAYS : Ret Tryz.prog F_octavoref19_count [.str ⟨#[68, 65, 89, 83]⟩] (.int .i64 (2)) := by
 refine r_octavoref19_count rfl fun hw => ?_
 clear hw
 repeat' ((conv => whnf); (first | refine csp (fun h => ?_) (fun h => ?_) | (refine sda ?_ ?_; (focus (first | rfl | (simp; done)))) | refine sda ?_ ?_ | refine conk rfl ?_ | refine ldk rfl ?_ | refine mapk (fun x hx => ?_) | exact ⟨rfl, rfl⟩ | refine nilk (fun h => ?_) ?_ | intro hl))
 all_goals conv => whnf
theorem rtwo_DAYS (a b : Ar) : Ret Tryz.prog F_octavoref19_two [.str ⟨#[68, 65, 89, 83]⟩, .row false [cA a, cA b]] (eV (if 0 < (dyS (oneS a)).2 then badS (dyS (oneS a)).2 else if 0 < (dyS (oneS b)).2 then badS (dyS (oneS b)).2 else whS (IntKind.i64.wrap ((dyS (oneS a)).1 - (dyS (oneS b)).1)))) := by
 have pa := dyS_pos (oneS_good a)
 have pb := dyS_pos (oneS_good b)
 have qa := dyS_rng (v := oneS a)
 have qb := dyS_rng (v := oneS b)
 have hw1 := w64 (n := (dyS (oneS a)).1 - (dyS (oneS b)).1) (by omega)
 have hi := ref17_Int (IntKind.i64.wrap ((dyS (oneS a)).1 - (dyS (oneS b)).1)) (by rw [hw1]; omega)
 refine r_octavoref19_two rfl fun hw => ?_
 clear hw
 repeat' ((conv => whnf); (first | refine csp (fun h => ?_) (fun h => ?_) | refine cllo (ref19_day _) (fun _ => ?_) | refine cllo (ref19_bad _) (fun _ => ?_) | refine cllo (hi) (fun _ => ?_) | (refine sda ?_ ?_; (focus (first | rfl | (simp; done)))) | refine sda ?_ ?_ | refine conk rfl ?_ | refine ldk rfl ?_ | refine mapk (fun x hx => ?_) | exact ⟨rfl, rfl⟩ | refine nilk (fun h => ?_) ?_ | intro hl))
 all_goals conv => whnf
 all_goals try simp only [tz] at *
 ·rw [if_pos (by omega)]
 ·rw [if_neg (by omega), if_pos (by omega)]
 ·rw [if_neg (by omega), if_neg (by omega)]
theorem rtwo_EDATE (a b : Ar) : Ret Tryz.prog F_octavoref19_two [.str ⟨#[69, 68, 65, 84, 69]⟩, .row false [cA a, cA b]] (eV (if 0 < (dyS (oneS a)).2 then badS (dyS (oneS a)).2 else if 0 < (intsL [b]).2 then badS (intsL [b]).2 else toldS (Lg.mnt (dyS (oneS a)).1 ((intsL [b]).1.getD 0 0) false).1 (Lg.mnt (dyS (oneS a)).1 ((intsL [b]).1.getD 0 0) false).2)) := by
 have pa := dyS_pos (oneS_good a)
 have pb := whlS_pos b
 have ei := ints1 b
 have hm := Lg.mnt_bd (dyS (oneS a)).1 (whlS (oneS b)).1 false
 have ht := ref19_told (Lg.mnt (dyS (oneS a)).1 (whlS (oneS b)).1 false).1 (Lg.mnt (dyS (oneS a)).1 (whlS (oneS b)).1 false).2 (by omega)
 rw [ei.1]
 refine r_octavoref19_two rfl fun hw => ?_
 clear hw
 by_cases hd : (dyS (oneS a)).2 ≤ 0
 ·obtain ⟨d1, d2⟩ := dyS_bd hd
  repeat' ((conv => whnf); (first | refine csp (fun h => ?_) (fun h => ?_) | refine cllo (ref19_day _) (fun _ => ?_) | refine cllo (ref19_bad _) (fun _ => ?_) | refine cllo (ref17_Whole _) (fun _ => ?_) | refine cllo (ref07_Months _ _ _ d1 d2) (fun _ => ?_) | refine cllo (ht) (fun _ => ?_) | (refine sda ?_ ?_; (focus (first | rfl | (simp; done)))) | refine sda ?_ ?_ | refine conk rfl ?_ | refine ldk rfl ?_ | refine mapk (fun x hx => ?_) | exact ⟨rfl, rfl⟩ | refine nilk (fun h => ?_) ?_ | intro hl))
  all_goals conv => whnf
  all_goals try simp only [tz] at *
  ·omega
  ·rw [if_neg (by omega), if_pos (by omega)]
  ·rw [if_neg (by omega), if_neg (by omega), ei.2 (by omega)]
 ·repeat' ((conv => whnf); (first | refine csp (fun h => ?_) (fun h => ?_) | refine cllo (ref19_day _) (fun _ => ?_) | refine cllo (ref19_bad _) (fun _ => ?_) | (refine sda ?_ ?_; (focus (first | rfl | (simp; done)))) | refine sda ?_ ?_ | refine conk rfl ?_ | refine ldk rfl ?_ | refine mapk (fun x hx => ?_) | exact ⟨rfl, rfl⟩ | refine nilk (fun h => ?_) ?_ | intro hl))
  all_goals conv => whnf
  all_goals try simp only [tz] at *
  ·rw [if_pos (by omega)]
  all_goals omega
theorem rtwo_EOMONTH (a b : Ar) : Ret Tryz.prog F_octavoref19_two [.str ⟨#[69, 79, 77, 79, 78, 84, 72]⟩, .row false [cA a, cA b]] (eV (if 0 < (dyS (oneS a)).2 then badS (dyS (oneS a)).2 else if 0 < (intsL [b]).2 then badS (intsL [b]).2 else toldS (Lg.mnt (dyS (oneS a)).1 ((intsL [b]).1.getD 0 0) true).1 (Lg.mnt (dyS (oneS a)).1 ((intsL [b]).1.getD 0 0) true).2)) := by
 have pa := dyS_pos (oneS_good a)
 have pb := whlS_pos b
 have ei := ints1 b
 have hm := Lg.mnt_bd (dyS (oneS a)).1 (whlS (oneS b)).1 true
 have ht := ref19_told (Lg.mnt (dyS (oneS a)).1 (whlS (oneS b)).1 true).1 (Lg.mnt (dyS (oneS a)).1 (whlS (oneS b)).1 true).2 (by omega)
 rw [ei.1]
 refine r_octavoref19_two rfl fun hw => ?_
 clear hw
 by_cases hd : (dyS (oneS a)).2 ≤ 0
 ·obtain ⟨d1, d2⟩ := dyS_bd hd
  repeat' ((conv => whnf); (first | refine csp (fun h => ?_) (fun h => ?_) | refine cllo (ref19_day _) (fun _ => ?_) | refine cllo (ref19_bad _) (fun _ => ?_) | refine cllo (ref17_Whole _) (fun _ => ?_) | refine cllo (ref07_Months _ _ _ d1 d2) (fun _ => ?_) | refine cllo (ht) (fun _ => ?_) | (refine sda ?_ ?_; (focus (first | rfl | (simp; done)))) | refine sda ?_ ?_ | refine conk rfl ?_ | refine ldk rfl ?_ | refine mapk (fun x hx => ?_) | exact ⟨rfl, rfl⟩ | refine nilk (fun h => ?_) ?_ | intro hl))
  all_goals conv => whnf
  all_goals try simp only [tz] at *
  ·omega
  ·rw [if_neg (by omega), if_pos (by omega)]
  ·rw [if_neg (by omega), if_neg (by omega), ei.2 (by omega)]
 ·repeat' ((conv => whnf); (first | refine csp (fun h => ?_) (fun h => ?_) | refine cllo (ref19_day _) (fun _ => ?_) | refine cllo (ref19_bad _) (fun _ => ?_) | (refine sda ?_ ?_; (focus (first | rfl | (simp; done)))) | refine sda ?_ ?_ | refine conk rfl ?_ | refine ldk rfl ?_ | refine mapk (fun x hx => ?_) | exact ⟨rfl, rfl⟩ | refine nilk (fun h => ?_) ?_ | intro hl))
  all_goals conv => whnf
  all_goals try simp only [tz] at *
  ·rw [if_pos (by omega)]
  all_goals omega
theorem ref19_dates (a b c : Ar) : Ret Tryz.prog F_octavoref19_dates [.row false [cA a, cA b, cA c]] (eV (dateS [a, b, c])) := by
 have pa := whlS_pos a
 have pb := whlS_pos b
 have pc := whlS_pos c
 have ed := date3 a b c
 have hm := Lg.dof_bd (whlS (oneS a)).1 (whlS (oneS b)).1 (whlS (oneS c)).1
 have ht := ref19_told (Lg.dof (whlS (oneS a)).1 (whlS (oneS b)).1 (whlS (oneS c)).1).1 (Lg.dof (whlS (oneS a)).1 (whlS (oneS b)).1 (whlS (oneS c)).1).2 (by omega)
 refine r_octavoref19_dates rfl fun hw => ?_
 clear hw
 repeat' ((conv => whnf); (first | refine pickk0 ?_ | refine csp (fun h => ?_) (fun h => ?_) | refine Or.inr (Or.inl ⟨4, ?_⟩) | refine cllo (ref17_Whole _) (fun _ => ?_) | refine cllo (ref19_bad _) (fun _ => ?_) | refine cllo (ref07_Of _ _ _ (by omega) (by omega) (by omega)) (fun _ => ?_) | refine cllo (ht) (fun _ => ?_) | (refine sda ?_ ?_; (focus (first | rfl | exact of_decide_eq_true rfl | (simp; done)))) | refine sda ?_ ?_ | refine conk rfl ?_ | refine ldk rfl ?_ | refine mapk (fun x hx => ?_) | exact ⟨rfl, rfl⟩ | refine nilk (fun h => absurd h (of_decide_eq_false rfl)) ?_ | refine nilk (fun h => absurd h (List.cons_ne_nil _ _)) ?_ | refine nilk (fun h => ?_) ?_ | exact rfl | refine leftk1 rfl ?_ | refine bytk8 rfl ?_ | refine bytk rfl ?_ | exact leftk0 rfl | refine eqk rfl ?_ | refine fLm rfl ?_ | refine fLk (by assumption) ?_ | refine fVk ?_ | refine fLVk ?_ | refine fWk ?_ | intro hl))
 all_goals conv => whnf
 all_goals try simp only [tz] at *
 ·rw [ed, if_pos (by omega)]
 ·rw [ed, if_neg (by omega), if_pos (by omega)]
 ·rw [ed, if_neg (by omega), if_neg (by omega), if_pos (by omega)]
 ·rw [ed, if_neg (by omega), if_neg (by omega), if_neg (by omega)]
end Go.Proofs.YtllceoncpgebpaaGreatDoor
set_option maxRecDepth 100000
set_option linter.all false
namespace Go.Proofs.YtllceoncpgebpaaGreatDoor
open Ab R
theorem ref19_truths (l : List Ar) : Ret Tryz.prog F_octavoref19_truths [.row false (l.map cA)] (.tup [.int .i64 (votesS l).2.1, .int .i64 (votesS l).2.2, .int .i64 (votesS l).1]) := by
 refine r_octavoref19_truths rfl fun hw => ?_
 clear hw
 repeat' ((conv => whnf); (first | refine csp (fun h => ?_) (fun h => ?_) | (refine sda ?_ ?_; (focus (first | rfl | (simp; done)))) | refine sda ?_ ?_ | refine conk rfl ?_ | refine ldk rfl ?_ | refine mapk (fun x hx => ?_) | exact ⟨rfl, rfl⟩ | refine nilk (fun h => ?_) ?_ | intro hl))
 try simp only [tz] at *
 refine .inl ⟨Nat, [5, 6, 13, 14, 15], [], fun i => [(5, .int .i64 ((l.take i).foldl stA (0, 0, 0)).2.1), (6, .int .i64 ((l.take i).foldl stA (0, 0, 0)).2.2), (13, .row false (l.map cA)), (14, .int .i64 l.length), (15, .int .i64 i)], fun _ => [], fun i => i ≤ l.length ∧ ((l.take i).foldl stA (0, 0, 0)).1 = 0, fun i => l.length - i, rfl, ?_, fun i hi => ?_⟩
 ·exact ⟨0, rfl, by trivial, Nat.zero_le _, rfl⟩
 ·obtain ⟨hi, h0⟩ := hi
  repeat' ((conv => whnf); (first | refine csp (fun h => ?_) (fun h => ?_) | refine cllo (ref17_Good _) (fun _ => ?_) | (refine sda ?_ ?_; (focus (first | rfl | (simp; done)))) | refine sda ?_ ?_ | refine conk rfl ?_ | refine ldk rfl ?_ | refine mapk (fun x hx => ?_) | exact ⟨rfl, rfl⟩ | refine nilk (fun h => ?_) ?_ | intro hl))
  ·try simp only [tz] at *
   omega
  ·have hx' : l[i]? = some x := hx
   conv => whnf
   try simp only [tz] at *
   have e : votesS l = (2, 0, 0) := by rw [votesS, foldD hx', stA, if_neg (by rw [h0]; simp), if_pos h]; exact stA_err _ _ (by simp)
   rw [e]
  ·rename Ar => y
   rename l[_]? = some y => hy
   have hy' : l[i]? = some y := hy
   have hlt := (List.getElem?_eq_some_iff.1 hy').1
   try simp only [tz] at *
   have hg : goodA y = true := by assumption
   refine .inl ⟨Nat, [5, 6, 8, 13, 14, 15, 23, 24, 25], [0], fun k => [(5, .int .i64 (inS l i y k).2.1), (6, .int .i64 (inS l i y k).2.2), (8, .ptr 0 0), (13, .row false (l.map cA)), (14, .int .i64 l.length), (15, .int .i64 i), (23, .row false (y.l.map cV)), (24, .int .i64 y.l.length), (25, .int .i64 k)], fun _ => [.box true (cA y)], fun k => k ≤ y.l.length ∧ (inS l i y k).1 = 0, fun k => y.l.length - k, rfl, ?_, fun k hk => ?_⟩
   ·exact ⟨0, rfl, by trivial, Nat.zero_le _, h0⟩
   ·obtain ⟨hk, hk0⟩ := hk
    repeat' ((conv => whnf); (first | refine csp (fun h => ?_) (fun h => ?_) | refine cllo (rToBool_g _ (goodA_mem hg (List.mem_of_getElem? hx))) (fun _ => ?_) | (refine sda ?_ ?_; (focus (first | rfl | (simp; done)))) | refine sda ?_ ?_ | refine conk rfl ?_ | refine ldk rfl ?_ | refine mapk (fun x hx => ?_) | exact ⟨rfl, rfl⟩ | refine nilk (fun h => ?_) ?_ | intro hl))
    all_goals conv => whnf
    all_goals try simp only [tz] at *
    ·omega
    ·have hx' : y.l[k]? = some x := hx
     have e : stV (decide (1 < (y.l.length : Int))) (inS l i y k) x = inS l i y k := by rw [stV, if_neg (by rw [hk0]; simp), if_pos ⟨decide_eq_true (by assumption), by simp [h]⟩]
     refine ⟨k + 1, ?_, by trivial, ⟨by omega, by rw [inS_next hx', e]; exact hk0⟩, by omega⟩
     rw [inS_next hx', e, w64 (by omega)]
     rfl
    ·have hx' : y.l[k]? = some x := hx
     have e : stV (decide (1 < (y.l.length : Int))) (inS l i y k) x = inS l i y k := by rw [stV, if_neg (by rw [hk0]; simp), if_pos ⟨decide_eq_true (by assumption), by simp [h]⟩]
     refine ⟨k + 1, ?_, by trivial, ⟨by omega, by rw [inS_next hx', e]; exact hk0⟩, by omega⟩
     rw [inS_next hx', e, w64 (by omega)]
     rfl
    ·have hx' : y.l[k]? = some x := hx
     have e : stV (decide (1 < (y.l.length : Int))) (inS l i y k) x = ((tb x).2, 0, 0) := by rw [stV, if_neg (by rw [hk0]; simp), if_neg (fun q => by have := of_decide_eq_true q.1; rcases q.2 with a | a <;> omega), if_pos (by have := tb_good (goodA_mem hg (List.mem_of_getElem? hx')); omega)]
     have e2 := inS_err hy' hg h0 hx' (by rw [e]; simp only; omega)
     rw [e] at e2
     rw [e2]
    ·have hx' : y.l[k]? = some x := hx
     rename (tb x).1 = true => hb
     have e : stV (decide (1 < (y.l.length : Int))) (inS l i y k) x = (0, IntKind.i64.wrap ((inS l i y k).2.1 + 1), (inS l i y k).2.2) := by rw [stV, if_neg (by rw [hk0]; simp), if_neg (fun q => by have := of_decide_eq_true q.1; rcases q.2 with a | a <;> omega), if_neg (by omega), hb]; rfl
     refine ⟨k + 1, ?_, by trivial, ⟨by omega, by rw [inS_next hx', e]⟩, by omega⟩
     rw [inS_next hx', e, w64 (n := (k : Int) + 1) (by omega)]
     rfl
    ·have hx' : y.l[k]? = some x := hx
     rename (tb x).1 = false => hb
     have e : stV (decide (1 < (y.l.length : Int))) (inS l i y k) x = (0, (inS l i y k).2.1, IntKind.i64.wrap ((inS l i y k).2.2 + 1)) := by rw [stV, if_neg (by rw [hk0]; simp), if_neg (fun q => by have := of_decide_eq_true q.1; rcases q.2 with a | a <;> omega), if_neg (by omega), hb]; rfl
     refine ⟨k + 1, ?_, by trivial, ⟨by omega, by rw [inS_next hx', e]⟩, by omega⟩
     rw [inS_next hx', e, w64 (n := (k : Int) + 1) (by omega)]
     rfl
    ·have hx' : y.l[k]? = some x := hx
     have e : stV (decide (1 < (y.l.length : Int))) (inS l i y k) x = ((tb x).2, 0, 0) := by rw [stV, if_neg (by rw [hk0]; simp), if_neg (fun q => by have := of_decide_eq_true q.1; rcases q.2 with a | a <;> omega), if_pos (by have := tb_good (goodA_mem hg (List.mem_of_getElem? hx')); omega)]
     have e2 := inS_err hy' hg h0 hx' (by rw [e]; simp only; omega)
     rw [e] at e2
     rw [e2]
    ·have hx' : y.l[k]? = some x := hx
     rename (tb x).1 = true => hb
     have e : stV (decide (1 < (y.l.length : Int))) (inS l i y k) x = (0, IntKind.i64.wrap ((inS l i y k).2.1 + 1), (inS l i y k).2.2) := by rw [stV, if_neg (by rw [hk0]; simp), if_neg (fun q => by have := of_decide_eq_true q.1; rcases q.2 with a | a <;> omega), if_neg (by omega), hb]; rfl
     refine ⟨k + 1, ?_, by trivial, ⟨by omega, by rw [inS_next hx', e]⟩, by omega⟩
     rw [inS_next hx', e, w64 (n := (k : Int) + 1) (by omega)]
     rfl
    ·have hx' : y.l[k]? = some x := hx
     rename (tb x).1 = false => hb
     have e : stV (decide (1 < (y.l.length : Int))) (inS l i y k) x = (0, (inS l i y k).2.1, IntKind.i64.wrap ((inS l i y k).2.2 + 1)) := by rw [stV, if_neg (by rw [hk0]; simp), if_neg (fun q => by have := of_decide_eq_true q.1; rcases q.2 with a | a <;> omega), if_neg (by omega), hb]; rfl
     refine ⟨k + 1, ?_, by trivial, ⟨by omega, by rw [inS_next hx', e]⟩, by omega⟩
     rw [inS_next hx', e, w64 (n := (k : Int) + 1) (by omega)]
     rfl
    ·have e := inS_end hy' hg h0 (k := k) (by omega)
     refine ⟨i + 1, ?_, by trivial, ⟨by omega, by rw [e]; exact hk0⟩, by omega⟩
     rw [e, w64 (n := (i : Int) + 1) (by omega)]
     rfl
  ·conv => whnf
   try simp only [tz] at *
   have e : l.take i = l := List.take_of_length_le (by omega)
   rw [e] at h0 ⊢
   show V.tup [.int .i64 (votesS l).2.1, .int .i64 (votesS l).2.2, .int .i64 0] = _
   rw [show (votesS l).1 = 0 from h0]
end Go.Proofs.YtllceoncpgebpaaGreatDoor
set_option maxRecDepth 100000
set_option linter.all false
namespace Go.Proofs.YtllceoncpgebpaaGreatDoor
open Ab R
def amW (al : ByteArray) (i : Nat) : Bool := decide (i = al.size) || (al[i]?).any fun c => c.toNat == 32
def amAt (al : ByteArray) : Nat → Nat
 | 0 => 0
 | i + 1 => if amW al i = true then i + 1 else amAt al i
theorem amAt_le (al : ByteArray) : ∀ i, amAt al i ≤ i
 | 0 => Nat.le_refl 0
 | i + 1 => by
  rw [amAt]
  split
  ·exact Nat.le_refl _
  ·exact Nat.le_succ_of_le (amAt_le al i)
def wrds (al : ByteArray) : List ByteArray := (List.range (al.size + 1)).filterMap fun i => if amW al i = true then some (al.extract (amAt al i) i) else none
def amS (nm al : ByteArray) : Bool := !decide (nm = e0) && (wrds al).any fun w => decide (w = nm)
theorem amS_yes {nm al : ByteArray} (h : nm ∈ wrds al) (k : nm ≠ e0) : amS nm al = true := by
 rw [amS, decide_eq_false k, Bool.not_false, Bool.true_and]
 exact List.any_eq_true.2 ⟨nm, h, decide_eq_true rfl⟩
theorem amS_no {nm al : ByteArray} (h : nm ∈ wrds al → nm = e0) : amS nm al = false := by
 by_cases k : nm = e0
 ·rw [amS, decide_eq_true k, Bool.not_true, Bool.false_and]
 ·rw [amS, Bool.and_eq_false_iff]
  right
  rw [List.any_eq_false]
  intro w hw q
  rw [of_decide_eq_true q] at hw
  exact k (h hw)
theorem wrds_in {nm al : ByteArray} {i : Nat} (h : i ≤ al.size) (hw : amW al i = true) (he : al.extract (amAt al i) i = nm) : nm ∈ wrds al :=
 List.mem_filterMap.2 ⟨i, List.mem_range.2 (by omega), by rw [if_pos hw, he]⟩
theorem wrds_no {nm al : ByteArray} (h : ∀ j, j ≤ al.size → amW al j = true → al.extract (amAt al j) j = nm → nm = e0) : amS nm al = false := by
 refine amS_no fun q => ?_
 obtain ⟨i, hi, he⟩ := List.mem_filterMap.1 q
 have hi := List.mem_range.1 hi
 split at he
 ·rename_i hw
  exact h i (by omega) hw (Option.some.inj he)
 ·cases he
theorem amW_1 {al : ByteArray} {i : Nat} {c : UInt8} (hc : al[i]? = some c) (h : c.toNat = 32) : amW al i = true := by
 rw [amW, hc]
 simp [h]
theorem amW_0 {al : ByteArray} {i : Nat} {c : UInt8} (hc : al[i]? = some c) (hi : i ≠ al.size) (h : c.toNat ≠ 32) : amW al i = false := by
 rw [amW, hc]
 simp [h, hi]
theorem amW_e {al : ByteArray} {i : Nat} (h : i = al.size) : amW al i = true := by
 rw [amW, decide_eq_true h, Bool.true_or]
theorem ref17_Among (nm al : ByteArray) (hs : al.size ≤ 1000) : Ret Tryz.prog F_octavoref17_Among [.str nm, .str al] (.bool (amS nm al)) := by
 refine r_octavoref17_Among rfl fun hw => ?_
 clear hw
 repeat' ((conv => whnf); (first | refine csp (fun h => ?_) (fun h => ?_) | (refine sda ?_ ?_; (focus (first | rfl | (simp; done)))) | refine sda ?_ ?_ | refine conk rfl ?_ | refine ldk rfl ?_ | refine mapk (fun x hx => ?_) | exact ⟨rfl, rfl⟩ | refine nilk (fun h => ?_) ?_ | intro hl))
 try simp only [tz] at *
 refine .inl ⟨Nat, [0, 1, 5, 6], [], fun i => [(0, .str nm), (1, .str al), (5, .int .i64 (amAt al i : Nat)), (6, .int .i64 i)], fun _ => [], fun i => i ≤ al.size + 1 ∧ ∀ j, j < i → amW al j = true → al.extract (amAt al j) j = nm → nm = e0, fun i => al.size + 1 - i, rfl, ?_, fun i hi => ?_⟩
 ·exact ⟨0, rfl, rfl, by omega, fun j q => absurd q (by omega)⟩
 ·obtain ⟨hi, hp⟩ := hi
  have ha := amAt_le al i
  have hw1 := w64 (n := (i : Int) + 1) (by omega)
  have yes : ∀ (b : Bool), amW al i = true → al.extract (amAt al i) i = nm → nm ≠ e0 → i ≤ al.size → V.bool true = V.bool (amS nm al) := fun _ h1 h2 h3 h4 => by rw [amS_yes (wrds_in h4 h1 h2) h3]
  have nxt : ∀ (q : amW al i = true → al.extract (amAt al i) i = nm → nm = e0), ∀ j, j < i + 1 → amW al j = true → al.extract (amAt al j) j = nm → nm = e0 := fun q j hj => by
   by_cases e : j = i
   ·rw [e]; exact q
   ·exact hp j (by omega)
  have at1 : amW al i = true → amAt al (i + 1) = i + 1 := fun h => by rw [amAt, if_pos h]
  have at0 : amW al i = false → amAt al (i + 1) = amAt al i := fun h => by rw [amAt, if_neg (by rw [h]; simp)]
  repeat' ((conv => whnf); (first | refine csp (fun h => ?_) (fun h => ?_) | (refine sda ?_ ?_; (focus (first | rfl | (simp; done)))) | refine sda ?_ ?_ | refine conk rfl ?_ | refine ldk rfl ?_ | refine mapk (fun x hx => ?_) | exact ⟨rfl, rfl⟩ | refine nilk (fun h => ?_) ?_ | intro hl))
  all_goals conv => whnf
  all_goals try simp only [tz] at *
  all_goals (try simp only [Int.toNat_natCast] at *)
  ·omega
  ·exact yes true (amW_e (by omega)) (by assumption) h (by omega)
  ·have hW := amW_e (al := al) (i := i) (by omega)
   exact ⟨i + 1, by rw [at1 hW, hw1]; rfl, by trivial, ⟨by omega, nxt fun _ _ => h⟩, by omega⟩
  ·have hW := amW_e (al := al) (i := i) (by omega)
   exact ⟨i + 1, by rw [at1 hW, hw1]; rfl, by trivial, ⟨by omega, nxt fun _ q => absurd q h⟩, by omega⟩
  ·omega
  ·omega
  ·rename _ = some _ => hc
   exact yes true (amW_1 hc (by omega)) (by assumption) h (by omega)
  ·rename _ = some _ => hc
   have hW := amW_1 hc (by omega)
   exact ⟨i + 1, by rw [at1 hW, hw1]; rfl, by trivial, ⟨by omega, nxt fun _ _ => h⟩, by omega⟩
  ·rename _ = some _ => hc
   have hW := amW_1 hc (by omega)
   exact ⟨i + 1, by rw [at1 hW, hw1]; rfl, by trivial, ⟨by omega, nxt fun _ q => absurd q h⟩, by omega⟩
  ·rename _ = some _ => hc
   have hW := amW_0 hc (by omega) (by omega)
   exact ⟨i + 1, by rw [at0 hW, hw1]; rfl, by trivial, ⟨by omega, nxt fun q _ => by rw [hW] at q; cases q⟩, by omega⟩
  ·rw [wrds_no fun j hj => hp j (by omega)]
theorem wrds_k : wrds ⟨#[73, 83, 66, 76, 65, 78, 75, 32, 73, 83, 78, 85, 77, 66, 69, 82, 32, 73, 83, 84, 69, 88, 84, 32, 73, 83, 76, 79, 71, 73, 67, 65, 76, 32, 73, 83, 69, 82, 82, 79, 82, 32, 73, 83, 78, 65, 32, 73, 83, 69, 82, 82, 32, 73, 83, 78, 79, 78, 84, 69, 88, 84, 32, 84, 89, 80, 69, 32, 69, 82, 82, 79, 82, 84, 89, 80, 69]⟩ = ([⟨#[73, 83, 66, 76, 65, 78, 75]⟩, ⟨#[73, 83, 78, 85, 77, 66, 69, 82]⟩, ⟨#[73, 83, 84, 69, 88, 84]⟩, ⟨#[73, 83, 76, 79, 71, 73, 67, 65, 76]⟩, ⟨#[73, 83, 69, 82, 82, 79, 82]⟩, ⟨#[73, 83, 78, 65]⟩, ⟨#[73, 83, 69, 82, 82]⟩, ⟨#[73, 83, 78, 79, 78, 84, 69, 88, 84]⟩, ⟨#[84, 89, 80, 69]⟩, ⟨#[69, 82, 82, 79, 82, 84, 89, 80, 69]⟩] : List ByteArray) := by decide +kernel
theorem wrds_d : wrds ⟨#[89, 69, 65, 82, 32, 77, 79, 78, 84, 72, 32, 68, 65, 89, 32, 87, 69, 69, 75, 68, 65, 89, 32, 87, 69, 69, 75, 78, 85, 77, 32, 68, 65, 84, 69, 84, 69, 88, 84]⟩ = ([⟨#[89, 69, 65, 82]⟩, ⟨#[77, 79, 78, 84, 72]⟩, ⟨#[68, 65, 89]⟩, ⟨#[87, 69, 69, 75, 68, 65, 89]⟩, ⟨#[87, 69, 69, 75, 78, 85, 77]⟩, ⟨#[68, 65, 84, 69, 84, 69, 88, 84]⟩] : List ByteArray) := by decide +kernel
theorem wrds_a : wrds ⟨#[65, 78, 68, 32, 79, 82, 32, 88, 79, 82, 32, 78, 79, 84, 32, 84, 82, 85, 69, 32, 70, 65, 76, 83, 69, 32, 78, 65, 32, 68, 65, 84, 69, 32, 69, 68, 65, 84, 69, 32, 69, 79, 77, 79, 78, 84, 72, 32, 68, 65, 89, 83, 32, 68, 65, 84, 69, 86, 65, 76, 85, 69]⟩ = ([⟨#[65, 78, 68]⟩, ⟨#[79, 82]⟩, ⟨#[88, 79, 82]⟩, ⟨#[78, 79, 84]⟩, ⟨#[84, 82, 85, 69]⟩, ⟨#[70, 65, 76, 83, 69]⟩, ⟨#[78, 65]⟩, ⟨#[68, 65, 84, 69]⟩, ⟨#[69, 68, 65, 84, 69]⟩, ⟨#[69, 79, 77, 79, 78, 84, 72]⟩, ⟨#[68, 65, 89, 83]⟩, ⟨#[68, 65, 84, 69, 86, 65, 76, 85, 69]⟩] : List ByteArray) := by decide +kernel
end Go.Proofs.YtllceoncpgebpaaGreatDoor
set_option maxRecDepth 100000
set_option linter.all false
namespace Go.Proofs.YtllceoncpgebpaaGreatDoor
open Ab R
abbrev litK19 : ByteArray := ⟨#[73, 83, 66, 76, 65, 78, 75, 32, 73, 83, 78, 85, 77, 66, 69, 82, 32, 73, 83, 84, 69, 88, 84, 32, 73, 83, 76, 79, 71, 73, 67, 65, 76, 32, 73, 83, 69, 82, 82, 79, 82, 32, 73, 83, 78, 65, 32, 73, 83, 69, 82, 82, 32, 73, 83, 78, 79, 78, 84, 69, 88, 84, 32, 84, 89, 80, 69, 32, 69, 82, 82, 79, 82, 84, 89, 80, 69]⟩
abbrev litD19 : ByteArray := ⟨#[89, 69, 65, 82, 32, 77, 79, 78, 84, 72, 32, 68, 65, 89, 32, 87, 69, 69, 75, 68, 65, 89, 32, 87, 69, 69, 75, 78, 85, 77, 32, 68, 65, 84, 69, 84, 69, 88, 84]⟩
abbrev litA19 : ByteArray := ⟨#[65, 78, 68, 32, 79, 82, 32, 88, 79, 82, 32, 78, 79, 84, 32, 84, 82, 85, 69, 32, 70, 65, 76, 83, 69, 32, 78, 65, 32, 68, 65, 84, 69, 32, 69, 68, 65, 84, 69, 32, 69, 79, 77, 79, 78, 84, 72, 32, 68, 65, 89, 83, 32, 68, 65, 84, 69, 86, 65, 76, 85, 69]⟩
def knS (nm : ByteArray) : Bool := amS nm litK19 || (amS nm litD19 || amS nm litA19)
theorem ref19_Known (nm : ByteArray) : Ret Tryz.prog F_octavoref19_Known [.str nm] (.bool (knS nm)) := by
 refine r_octavoref19_Known rfl fun hw => ?_
 clear hw
 repeat' ((conv => whnf); (first | refine csp (fun h => ?_) (fun h => ?_) | refine cllo (ref17_Among _ _ (by decide +kernel)) (fun _ => ?_) | (refine sda ?_ ?_; (focus (first | rfl | (simp; done)))) | refine sda ?_ ?_ | refine conk rfl ?_ | refine ldk rfl ?_ | refine mapk (fun x hx => ?_) | exact ⟨rfl, rfl⟩ | refine nilk (fun h => ?_) ?_ | intro hl))
 all_goals conv => whnf
 all_goals (simp_all [knS])
theorem knS_in {nm : ByteArray} (h : nm ∈ names19) : knS nm = true := by
 simp only [names19, List.mem_append, List.mem_cons, List.not_mem_nil, or_false, or_assoc] at h
 rcases h with rfl | rfl | rfl | rfl | rfl | rfl | rfl | rfl | rfl | rfl | rfl | rfl | rfl | rfl | rfl | rfl | rfl | rfl | rfl | rfl | rfl | rfl | rfl | rfl | rfl | rfl | rfl | rfl <;> decide +kernel
theorem knS_out {nm : ByteArray} (h : nm ∉ names19) : knS nm = false := by
 have k1 : amS nm litK19 = false := amS_no fun q => by
  rw [wrds_k] at q
  exact absurd (by simp only [names19, List.mem_append, List.mem_cons, List.not_mem_nil, or_false, or_assoc] at q ⊢; rcases q with q | q | q | q | q | q | q | q | q | q <;> simp [q]) h
 have k2 : amS nm litD19 = false := amS_no fun q => by
  rw [wrds_d] at q
  exact absurd (by simp only [names19, List.mem_append, List.mem_cons, List.not_mem_nil, or_false, or_assoc] at q ⊢; rcases q with q | q | q | q | q | q <;> simp [q]) h
 have k3 : amS nm litA19 = false := amS_no fun q => by
  rw [wrds_a] at q
  exact absurd (by simp only [names19, List.mem_append, List.mem_cons, List.not_mem_nil, or_false, or_assoc] at q ⊢; rcases q with q | q | q | q | q | q | q | q | q | q | q | q <;> simp [q]) h
 rw [knS, k1, k2, k3]
 rfl
theorem rc_bad (nm : ByteArray) (n : Int) (l : List Ar) (hk : knS nm = true) (hc : Ret Tryz.prog F_octavoref19_count [.str nm] (.int .i64 n)) (h1 : (n < 0 ∧ l.length = 0) ∨ (0 ≤ n ∧ l.length ≠ n)) : Ret Tryz.prog F_octavoref19_Call [.str nm, .row false (l.map cA)] (.tup [eV (badS 2), .bool true]) := by
 have hK := ref19_Known nm
 rw [hk] at hK
 refine r_octavoref19_Call rfl fun hw => ?_
 clear hw
 rcases h1 with ⟨h2, h3⟩ | ⟨h2, h3⟩
 ·repeat' ((conv => whnf); (first | refine csp (fun h => ?_) (fun h => ?_) | refine cllo (hK) (fun _ => ?_) | refine cllo (hc) (fun _ => ?_) | refine cllo (ref19_bad _) (fun _ => ?_) | (refine sda ?_ ?_; (focus (first | rfl | (simp; done)))) | refine sda ?_ ?_ | refine conk rfl ?_ | refine ldk rfl ?_ | refine mapk (fun x hx => ?_) | exact ⟨rfl, rfl⟩ | refine nilk (fun h => ?_) ?_ | intro hl))
  all_goals conv => whnf
  all_goals try simp only [tz] at *
  all_goals exfalso
  all_goals omega
 ·repeat' ((conv => whnf); (first | refine csp (fun h => ?_) (fun h => ?_) | refine cllo (hK) (fun _ => ?_) | refine cllo (hc) (fun _ => ?_) | refine cllo (ref19_bad _) (fun _ => ?_) | (refine sda ?_ ?_; (focus (first | rfl | (simp; done)))) | refine sda ?_ ?_ | refine conk rfl ?_ | refine ldk rfl ?_ | refine mapk (fun x hx => ?_) | exact ⟨rfl, rfl⟩ | refine nilk (fun h => ?_) ?_ | intro hl))
  all_goals conv => whnf
  all_goals try simp only [tz] at *
  all_goals exfalso
  all_goals omega
theorem rc_day (nm : ByteArray) (q : Int → GV) (a : Ar) (hk : knS nm = true) (hn : nm ∉ ([⟨#[65, 78, 68]⟩, ⟨#[79, 82]⟩, ⟨#[88, 79, 82]⟩, ⟨#[78, 79, 84]⟩, ⟨#[84, 82, 85, 69]⟩, ⟨#[70, 65, 76, 83, 69]⟩, ⟨#[78, 65]⟩, ⟨#[68, 65, 84, 69]⟩, ⟨#[69, 68, 65, 84, 69]⟩, ⟨#[69, 79, 77, 79, 78, 84, 72]⟩, ⟨#[68, 65, 89, 83]⟩, ⟨#[68, 65, 84, 69, 86, 65, 76, 85, 69]⟩] : List ByteArray)) (hd : amS nm litD19 = true) (hq : ∀ d, 1 ≤ d → d ≤ 2958464 → Ret Tryz.prog F_octavoref19_ofDay [.str nm, .int .i64 d] (eV (q d))) : Ret Tryz.prog F_octavoref19_Call [.str nm, .row false [cA a]] (.tup [eV (if 0 < (dyS (oneS a)).2 then badS (dyS (oneS a)).2 else q (dyS (oneS a)).1), .bool true]) := by
 have hK := ref19_Known nm
 rw [hk] at hK
 have hD := ref17_Among nm litD19 (by decide +kernel)
 rw [hd] at hD
 have hc : Ret Tryz.prog F_octavoref19_count [.str nm] (.int .i64 1) := rct_1 fun q => hn (by simp only [List.mem_cons, List.not_mem_nil, or_false] at q ⊢; rcases q with q | q | q | q | q | q | q | q | q | q <;> simp [q])
 simp only [List.mem_cons, List.not_mem_nil, or_false, not_or] at hn
 have hp := dyS_pos (oneS_good a)
 by_cases hy : (dyS (oneS a)).2 ≤ 0
 ·obtain ⟨d1, d2⟩ := dyS_bd hy
  have hQ := hq _ d1 d2
  rw [if_neg (by omega)]
  refine r_octavoref19_Call rfl fun hw => ?_
  clear hw
  repeat' ((conv => whnf); (first | refine csp (fun h => ?_) (fun h => ?_) | refine cllo (hK) (fun _ => ?_) | refine cllo (hc) (fun _ => ?_) | refine cllo (hD) (fun _ => ?_) | refine cllo (ref19_day _) (fun _ => ?_) | refine cllo (ref19_bad _) (fun _ => ?_) | refine cllo (hQ) (fun _ => ?_) | (refine sda ?_ ?_; (focus (first | rfl | (simp; done)))) | refine sda ?_ ?_ | refine conk rfl ?_ | refine ldk rfl ?_ | refine mapk (fun x hx => ?_) | exact ⟨rfl, rfl⟩ | refine nilk (fun h => ?_) ?_ | intro hl))
  all_goals conv => whnf
  all_goals try simp only [tz] at *
  all_goals (first | omega | (exfalso; subst h; simp at hn))
 ·rw [if_pos (by omega)]
  refine r_octavoref19_Call rfl fun hw => ?_
  clear hw
  repeat' ((conv => whnf); (first | refine csp (fun h => ?_) (fun h => ?_) | refine cllo (hK) (fun _ => ?_) | refine cllo (hc) (fun _ => ?_) | refine cllo (hD) (fun _ => ?_) | refine cllo (ref19_day _) (fun _ => ?_) | refine cllo (ref19_bad _) (fun _ => ?_) | (refine sda ?_ ?_; (focus (first | rfl | (simp; done)))) | refine sda ?_ ?_ | refine conk rfl ?_ | refine ldk rfl ?_ | refine mapk (fun x hx => ?_) | exact ⟨rfl, rfl⟩ | refine nilk (fun h => ?_) ?_ | intro hl))
  all_goals conv => whnf
  all_goals try simp only [tz] at *
  all_goals (first | omega | (exfalso; subst h; simp at hn))
theorem rc_kind (nm : ByteArray) (q : GV → GV) (a : Ar) (hk : knS nm = true) (hn : nm ∉ ([⟨#[65, 78, 68]⟩, ⟨#[79, 82]⟩, ⟨#[88, 79, 82]⟩, ⟨#[78, 79, 84]⟩, ⟨#[84, 82, 85, 69]⟩, ⟨#[70, 65, 76, 83, 69]⟩, ⟨#[78, 65]⟩, ⟨#[68, 65, 84, 69]⟩, ⟨#[69, 68, 65, 84, 69]⟩, ⟨#[69, 79, 77, 79, 78, 84, 72]⟩, ⟨#[68, 65, 89, 83]⟩, ⟨#[68, 65, 84, 69, 86, 65, 76, 85, 69]⟩] : List ByteArray)) (hd : amS nm litD19 = false) (hq : ∀ v, goodV v = true → Ret Tryz.prog F_octavoref19_kind [.str nm, eV v] (eV (q v))) : Ret Tryz.prog F_octavoref19_Call [.str nm, .row false [cA a]] (.tup [eV (q (oneS a)), .bool true]) := by
 have hK := ref19_Known nm
 rw [hk] at hK
 have hD := ref17_Among nm litD19 (by decide +kernel)
 rw [hd] at hD
 have hc : Ret Tryz.prog F_octavoref19_count [.str nm] (.int .i64 1) := rct_1 fun q => hn (by simp only [List.mem_cons, List.not_mem_nil, or_false] at q ⊢; rcases q with q | q | q | q | q | q | q | q | q | q <;> simp [q])
 simp only [List.mem_cons, List.not_mem_nil, or_false, not_or] at hn
 have hB := hq (badS 2) (goodV_bad 2)
 obtain ⟨r, c, l, m⟩ := a
 have hG := ref17_Good ⟨r, c, l, m⟩
 by_cases hg : goodA ⟨r, c, l, m⟩ = true
 ·rw [hg] at hG
  match l, hg with
  | [], hg =>
   have e : oneS ⟨r, c, [], m⟩ = badS 2 := by rw [oneS, if_neg (by simp)]
   rw [e]
   refine r_octavoref19_Call rfl fun hw => ?_
   clear hw
   repeat' ((conv => whnf); (first | refine csp (fun h => ?_) (fun h => ?_) | refine cllo (hK) (fun _ => ?_) | refine cllo (hc) (fun _ => ?_) | refine cllo (hD) (fun _ => ?_) | refine cllo (hG) (fun _ => ?_) | refine cllo (ref19_bad _) (fun _ => ?_) | refine cllo (hB) (fun _ => ?_) | (refine sda ?_ ?_; (focus (first | rfl | (simp; done)))) | refine sda ?_ ?_ | refine conk rfl ?_ | refine ldk rfl ?_ | refine mapk (fun x hx => ?_) | exact ⟨rfl, rfl⟩ | refine nilk (fun h => ?_) ?_ | intro hl))
   all_goals conv => whnf
   all_goals try simp only [tz] at *
   all_goals (first | omega | (exfalso; subst h; simp at hn))
  | x :: y :: l, hg =>
   have e : oneS ⟨r, c, x :: y :: l, m⟩ = badS 2 := by rw [oneS, if_neg (by simp)]
   rw [e]
   refine r_octavoref19_Call rfl fun hw => ?_
   clear hw
   repeat' ((conv => whnf); (first | refine csp (fun h => ?_) (fun h => ?_) | refine cllo (hK) (fun _ => ?_) | refine cllo (hc) (fun _ => ?_) | refine cllo (hD) (fun _ => ?_) | refine cllo (hG) (fun _ => ?_) | refine cllo (ref19_bad _) (fun _ => ?_) | refine cllo (hB) (fun _ => ?_) | (refine sda ?_ ?_; (focus (first | rfl | (simp; done)))) | refine sda ?_ ?_ | refine conk rfl ?_ | refine ldk rfl ?_ | refine mapk (fun x hx => ?_) | exact ⟨rfl, rfl⟩ | refine nilk (fun h => ?_) ?_ | intro hl))
   all_goals conv => whnf
   all_goals try simp only [tz] at *
   all_goals (first | omega | (exfalso; subst h; simp at hn))
  | [x], hg =>
   have e : oneS ⟨r, c, [x], m⟩ = x := by rw [oneS, if_pos ⟨rfl, hg⟩]; rfl
   have hX := hq x (goodA_mem hg (List.mem_singleton.2 rfl))
   rw [e]
   refine r_octavoref19_Call rfl fun hw => ?_
   clear hw
   repeat' ((conv => whnf); (first | refine csp (fun h => ?_) (fun h => ?_) | refine cllo (hK) (fun _ => ?_) | refine cllo (hc) (fun _ => ?_) | refine cllo (hD) (fun _ => ?_) | refine cllo (hG) (fun _ => ?_) | refine cllo (ref19_bad _) (fun _ => ?_) | refine cllo (hX) (fun _ => ?_) | (refine sda ?_ ?_; (focus (first | rfl | (simp; done)))) | refine sda ?_ ?_ | refine conk rfl ?_ | refine ldk rfl ?_ | refine mapk (fun x hx => ?_) | exact ⟨rfl, rfl⟩ | refine nilk (fun h => ?_) ?_ | intro hl))
   all_goals conv => whnf
   all_goals try simp only [tz] at *
   all_goals (first | omega | (exfalso; subst h; simp at hn))
 ·rw [Bool.eq_false_iff.2 hg] at hG
  have e : oneS ⟨r, c, l, m⟩ = badS 2 := by rw [oneS, if_neg (fun q => hg q.2)]
  rw [e]
  refine r_octavoref19_Call rfl fun hw => ?_
  clear hw
  repeat' ((conv => whnf); (first | refine csp (fun h => ?_) (fun h => ?_) | refine cllo (hK) (fun _ => ?_) | refine cllo (hc) (fun _ => ?_) | refine cllo (hD) (fun _ => ?_) | refine cllo (hG) (fun _ => ?_) | refine cllo (ref19_bad _) (fun _ => ?_) | refine cllo (hB) (fun _ => ?_) | (refine sda ?_ ?_; (focus (first | rfl | (simp; done)))) | refine sda ?_ ?_ | refine conk rfl ?_ | refine ldk rfl ?_ | refine mapk (fun x hx => ?_) | exact ⟨rfl, rfl⟩ | refine nilk (fun h => ?_) ?_ | intro hl))
  all_goals conv => whnf
  all_goals try simp only [tz] at *
  all_goals (first | omega | (exfalso; subst h; simp at hn))
def an0 (v : GV) (l : List Ar) : GV := match l with
 | [] => v
 | _ => badS 2
def an1 (q : Ar → GV) (l : List Ar) : GV := match l with
 | [a] => q a
 | _ => badS 2
def an2 (q : Ar → Ar → GV) (l : List Ar) : GV := match l with
 | [a, b] => q a b
 | _ => badS 2
def an3 (q : Ar → Ar → Ar → GV) (l : List Ar) : GV := match l with
 | [a, b, c] => q a b c
 | _ => badS 2
def anV (p : Int → Int → Bool) (l : List Ar) : GV := match l with
 | [] => badS 2
 | a :: l => if (votesS (a :: l)).1 ≠ 0 then badS (votesS (a :: l)).1 else truS (p (votesS (a :: l)).2.1 (votesS (a :: l)).2.2)
noncomputable def ans_AND : List Ar → GV := anV fun _ n => decide (n = 0)
theorem kn_AND : ∀ l : List Ar, Ret Tryz.prog F_logic_Call [.str ⟨#[65, 78, 68]⟩, .row false (l.map cA)] (.tup [eV (ans_AND l), .bool true])
 | a :: l => l19_callF _ _ _ _ _ _ fnd_AND (votes_1 F_logic_find_1 _ find_1 (a :: l)) (.inl ⟨by decide, by simp⟩)
 | [] => l19_badF _ _ _ _ _ fnd_AND (.inl ⟨by decide, rfl⟩)
theorem rc_AND (l : List Ar) : Ret Tryz.prog F_octavoref19_Call [.str ⟨#[65, 78, 68]⟩, .row false (l.map cA)] (.tup [eV (ans_AND l), .bool true]) := by
 have hk : knS ⟨#[65, 78, 68]⟩ = true := by decide +kernel
 match l with
 | [] => exact rc_bad _ _ ([]) hk rct_AND (.inl ⟨by decide, rfl⟩)
 | a :: l =>
  have hK := ref19_Known ⟨#[65, 78, 68]⟩
  rw [hk] at hK
  refine r_octavoref19_Call rfl fun hw => ?_
  clear hw
  repeat' ((conv => whnf); (first | refine csp (fun h => ?_) (fun h => ?_) | refine cllo (hK) (fun _ => ?_) | refine cllo (rct_AND) (fun _ => ?_) | refine cllo (ref19_truths (a :: l)) (fun _ => ?_) | refine cllo (ref19_bad _) (fun _ => ?_) | refine cllo (ref17_Truth _) (fun _ => ?_) | (refine sda ?_ ?_; (focus (first | rfl | (simp; done)))) | refine sda ?_ ?_ | refine conk rfl ?_ | refine ldk rfl ?_ | refine mapk (fun x hx => ?_) | exact ⟨rfl, rfl⟩ | refine nilk (fun h => ?_) ?_ | intro hl))
  all_goals conv => whnf
  all_goals (try try simp only [tz] at *)
  all_goals (try omega)
  ·rw [ans_AND, anV, if_pos h]
  ·rw [ans_AND, anV, if_neg (by omega)]
noncomputable def ans_OR : List Ar → GV := anV fun y _ => decide (y > 0)
theorem kn_OR : ∀ l : List Ar, Ret Tryz.prog F_logic_Call [.str ⟨#[79, 82]⟩, .row false (l.map cA)] (.tup [eV (ans_OR l), .bool true])
 | a :: l => l19_callF _ _ _ _ _ _ fnd_OR (votes_1 F_logic_find_2 _ find_2 (a :: l)) (.inl ⟨by decide, by simp⟩)
 | [] => l19_badF _ _ _ _ _ fnd_OR (.inl ⟨by decide, rfl⟩)
theorem rc_OR (l : List Ar) : Ret Tryz.prog F_octavoref19_Call [.str ⟨#[79, 82]⟩, .row false (l.map cA)] (.tup [eV (ans_OR l), .bool true]) := by
 have hk : knS ⟨#[79, 82]⟩ = true := by decide +kernel
 match l with
 | [] => exact rc_bad _ _ ([]) hk rct_OR (.inl ⟨by decide, rfl⟩)
 | a :: l =>
  have hK := ref19_Known ⟨#[79, 82]⟩
  rw [hk] at hK
  refine r_octavoref19_Call rfl fun hw => ?_
  clear hw
  repeat' ((conv => whnf); (first | refine csp (fun h => ?_) (fun h => ?_) | refine cllo (hK) (fun _ => ?_) | refine cllo (rct_OR) (fun _ => ?_) | refine cllo (ref19_truths (a :: l)) (fun _ => ?_) | refine cllo (ref19_bad _) (fun _ => ?_) | refine cllo (ref17_Truth _) (fun _ => ?_) | (refine sda ?_ ?_; (focus (first | rfl | (simp; done)))) | refine sda ?_ ?_ | refine conk rfl ?_ | refine ldk rfl ?_ | refine mapk (fun x hx => ?_) | exact ⟨rfl, rfl⟩ | refine nilk (fun h => ?_) ?_ | intro hl))
  all_goals conv => whnf
  all_goals (try try simp only [tz] at *)
  all_goals (try omega)
  ·rw [ans_OR, anV, if_pos h]
  ·rw [ans_OR, anV, if_neg (by omega)]
noncomputable def ans_XOR : List Ar → GV := anV fun y _ => decide (y.tmod 2 = 1)
theorem kn_XOR : ∀ l : List Ar, Ret Tryz.prog F_logic_Call [.str ⟨#[88, 79, 82]⟩, .row false (l.map cA)] (.tup [eV (ans_XOR l), .bool true])
 | a :: l => l19_callF _ _ _ _ _ _ fnd_XOR (votes_1 F_logic_find_3 _ find_3 (a :: l)) (.inl ⟨by decide, by simp⟩)
 | [] => l19_badF _ _ _ _ _ fnd_XOR (.inl ⟨by decide, rfl⟩)
theorem rc_XOR (l : List Ar) : Ret Tryz.prog F_octavoref19_Call [.str ⟨#[88, 79, 82]⟩, .row false (l.map cA)] (.tup [eV (ans_XOR l), .bool true]) := by
 have hk : knS ⟨#[88, 79, 82]⟩ = true := by decide +kernel
 match l with
 | [] => exact rc_bad _ _ ([]) hk rct_XOR (.inl ⟨by decide, rfl⟩)
 | a :: l =>
  have hK := ref19_Known ⟨#[88, 79, 82]⟩
  rw [hk] at hK
  refine r_octavoref19_Call rfl fun hw => ?_
  clear hw
  repeat' ((conv => whnf); (first | refine csp (fun h => ?_) (fun h => ?_) | refine cllo (hK) (fun _ => ?_) | refine cllo (rct_XOR) (fun _ => ?_) | refine cllo (ref19_truths (a :: l)) (fun _ => ?_) | refine cllo (ref19_bad _) (fun _ => ?_) | refine cllo (ref17_Truth _) (fun _ => ?_) | (refine sda ?_ ?_; (focus (first | rfl | (simp; done)))) | refine sda ?_ ?_ | refine conk rfl ?_ | refine ldk rfl ?_ | refine mapk (fun x hx => ?_) | exact ⟨rfl, rfl⟩ | refine nilk (fun h => ?_) ?_ | intro hl))
  all_goals conv => whnf
  all_goals (try try simp only [tz] at *)
  all_goals (try omega)
  ·rw [ans_XOR, anV, if_pos h]
  ·rw [ans_XOR, anV, if_neg (by omega)]
noncomputable def ans_NOT : List Ar → GV := an1 fun a => if 0 < (tb (oneS a)).2 then badS (tb (oneS a)).2 else truS (!(tb (oneS a)).1)
theorem kn_NOT : ∀ l : List Ar, Ret Tryz.prog F_logic_Call [.str ⟨#[78, 79, 84]⟩, .row false (l.map cA)] (.tup [eV (ans_NOT l), .bool true])
 | [a] => l19_call0 _ _ _ _ _ fnd_NOT (find_4 a) (.inr rfl)
 | [] => l19_bad0 _ _ _ _ fnd_NOT (.inr ⟨by decide, by simp only [List.map_cons, List.map_nil, List.length_cons, List.length_nil]; omega⟩)
 | a :: b :: l => l19_bad0 _ _ _ _ fnd_NOT (.inr ⟨by decide, by simp only [List.map_cons, List.map_nil, List.length_cons, List.length_nil]; omega⟩)
theorem rc_NOT (l : List Ar) : Ret Tryz.prog F_octavoref19_Call [.str ⟨#[78, 79, 84]⟩, .row false (l.map cA)] (.tup [eV (ans_NOT l), .bool true]) := by
 have hk : knS ⟨#[78, 79, 84]⟩ = true := by decide +kernel
 match l with
 | [] => exact rc_bad _ _ ([]) hk (rct_1 (by simp)) (.inr ⟨by decide, by simp only [List.length_cons, List.length_nil]; omega⟩)
 | a :: b :: l => exact rc_bad _ _ (a :: b :: l) hk (rct_1 (by simp)) (.inr ⟨by decide, by simp only [List.length_cons, List.length_nil]; omega⟩)
 | [a] =>
  have hK := ref19_Known ⟨#[78, 79, 84]⟩
  rw [hk] at hK
  have hc : Ret Tryz.prog F_octavoref19_count [.str ⟨#[78, 79, 84]⟩] (.int .i64 1) := (rct_1 (by simp))
  refine r_octavoref19_Call rfl fun hw => ?_
  clear hw
  repeat' ((conv => whnf); (first | refine csp (fun h => ?_) (fun h => ?_) | refine cllo (hK) (fun _ => ?_) | refine cllo (hc) (fun _ => ?_) | refine cllo (ref17_One _) (fun _ => ?_) | refine cllo (rToBool_g _ (oneS_good a)) (fun _ => ?_) | refine cllo (ref19_bad _) (fun _ => ?_) | refine cllo (ref17_Truth _) (fun _ => ?_) | (refine sda ?_ ?_; (focus (first | rfl | (simp; done)))) | refine sda ?_ ?_ | refine conk rfl ?_ | refine ldk rfl ?_ | refine mapk (fun x hx => ?_) | exact ⟨rfl, rfl⟩ | refine nilk (fun h => ?_) ?_ | intro hl))
  all_goals conv => whnf
  all_goals (try try simp only [tz] at *)
  all_goals (try omega)
  ·rw [ans_NOT, an1, if_pos (by have := tb_good (oneS_good a); omega)]
  ·rw [ans_NOT, an1, if_neg (by omega)]
noncomputable def ans_TRUE : List Ar → GV := an0 (truS true)
theorem kn_TRUE : ∀ l : List Ar, Ret Tryz.prog F_logic_Call [.str ⟨#[84, 82, 85, 69]⟩, .row false (l.map cA)] (.tup [eV (ans_TRUE l), .bool true])
 | [] => l19_callV _ _ _ _ _ _ fnd_TRUE (constant_1 _ _) (.inr rfl)
 | a :: l => l19_badV _ _ _ _ _ fnd_TRUE (.inr ⟨by decide, by simp only [List.map_cons, List.map_nil, List.length_cons, List.length_nil]; omega⟩)
theorem rc_TRUE (l : List Ar) : Ret Tryz.prog F_octavoref19_Call [.str ⟨#[84, 82, 85, 69]⟩, .row false (l.map cA)] (.tup [eV (ans_TRUE l), .bool true]) := by
 have hk : knS ⟨#[84, 82, 85, 69]⟩ = true := by decide +kernel
 match l with
 | a :: l => exact rc_bad _ _ (a :: l) hk rct_TRUE (.inr ⟨by decide, by simp only [List.length_cons, List.length_nil]; omega⟩)
 | [] =>
  have hK := ref19_Known ⟨#[84, 82, 85, 69]⟩
  rw [hk] at hK
  refine r_octavoref19_Call rfl fun hw => ?_
  clear hw
  repeat' ((conv => whnf); (first | refine csp (fun h => ?_) (fun h => ?_) | refine cllo (hK) (fun _ => ?_) | refine cllo (rct_TRUE) (fun _ => ?_) | refine cllo (ref17_Truth _) (fun _ => ?_) | (refine sda ?_ ?_; (focus (first | rfl | (simp; done)))) | refine sda ?_ ?_ | refine conk rfl ?_ | refine ldk rfl ?_ | refine mapk (fun x hx => ?_) | exact ⟨rfl, rfl⟩ | refine nilk (fun h => ?_) ?_ | intro hl))
  all_goals conv => whnf
  all_goals (try try simp only [tz] at *)
  all_goals (try omega)
  all_goals rfl
noncomputable def ans_FALSE : List Ar → GV := an0 (truS false)
theorem kn_FALSE : ∀ l : List Ar, Ret Tryz.prog F_logic_Call [.str ⟨#[70, 65, 76, 83, 69]⟩, .row false (l.map cA)] (.tup [eV (ans_FALSE l), .bool true])
 | [] => l19_callV _ _ _ _ _ _ fnd_FALSE (constant_1 _ _) (.inr rfl)
 | a :: l => l19_badV _ _ _ _ _ fnd_FALSE (.inr ⟨by decide, by simp only [List.map_cons, List.map_nil, List.length_cons, List.length_nil]; omega⟩)
theorem rc_FALSE (l : List Ar) : Ret Tryz.prog F_octavoref19_Call [.str ⟨#[70, 65, 76, 83, 69]⟩, .row false (l.map cA)] (.tup [eV (ans_FALSE l), .bool true]) := by
 have hk : knS ⟨#[70, 65, 76, 83, 69]⟩ = true := by decide +kernel
 match l with
 | a :: l => exact rc_bad _ _ (a :: l) hk rct_FALSE (.inr ⟨by decide, by simp only [List.length_cons, List.length_nil]; omega⟩)
 | [] =>
  have hK := ref19_Known ⟨#[70, 65, 76, 83, 69]⟩
  rw [hk] at hK
  refine r_octavoref19_Call rfl fun hw => ?_
  clear hw
  repeat' ((conv => whnf); (first | refine csp (fun h => ?_) (fun h => ?_) | refine cllo (hK) (fun _ => ?_) | refine cllo (rct_FALSE) (fun _ => ?_) | refine cllo (ref17_Truth _) (fun _ => ?_) | (refine sda ?_ ?_; (focus (first | rfl | (simp; done)))) | refine sda ?_ ?_ | refine conk rfl ?_ | refine ldk rfl ?_ | refine mapk (fun x hx => ?_) | exact ⟨rfl, rfl⟩ | refine nilk (fun h => ?_) ?_ | intro hl))
  all_goals conv => whnf
  all_goals (try try simp only [tz] at *)
  all_goals (try omega)
  all_goals rfl
noncomputable def ans_NA : List Ar → GV := an0 (badS 6)
theorem kn_NA : ∀ l : List Ar, Ret Tryz.prog F_logic_Call [.str ⟨#[78, 65]⟩, .row false (l.map cA)] (.tup [eV (ans_NA l), .bool true])
 | [] => l19_callV _ _ _ _ _ _ fnd_NA (constant_1 _ _) (.inr rfl)
 | a :: l => l19_badV _ _ _ _ _ fnd_NA (.inr ⟨by decide, by simp only [List.map_cons, List.map_nil, List.length_cons, List.length_nil]; omega⟩)
theorem rc_NA (l : List Ar) : Ret Tryz.prog F_octavoref19_Call [.str ⟨#[78, 65]⟩, .row false (l.map cA)] (.tup [eV (ans_NA l), .bool true]) := by
 have hk : knS ⟨#[78, 65]⟩ = true := by decide +kernel
 match l with
 | a :: l => exact rc_bad _ _ (a :: l) hk rct_NA (.inr ⟨by decide, by simp only [List.length_cons, List.length_nil]; omega⟩)
 | [] =>
  have hK := ref19_Known ⟨#[78, 65]⟩
  rw [hk] at hK
  refine r_octavoref19_Call rfl fun hw => ?_
  clear hw
  repeat' ((conv => whnf); (first | refine csp (fun h => ?_) (fun h => ?_) | refine cllo (hK) (fun _ => ?_) | refine cllo (rct_NA) (fun _ => ?_) | refine cllo (ref19_bad _) (fun _ => ?_) | (refine sda ?_ ?_; (focus (first | rfl | (simp; done)))) | refine sda ?_ ?_ | refine conk rfl ?_ | refine ldk rfl ?_ | refine mapk (fun x hx => ?_) | exact ⟨rfl, rfl⟩ | refine nilk (fun h => ?_) ?_ | intro hl))
  all_goals conv => whnf
  all_goals (try try simp only [tz] at *)
  all_goals (try omega)
  all_goals rfl
noncomputable def ans_DATE : List Ar → GV := an3 fun a b c => dateS [a, b, c]
theorem kn_DATE : ∀ l : List Ar, Ret Tryz.prog F_logic_Call [.str ⟨#[68, 65, 84, 69]⟩, .row false (l.map cA)] (.tup [eV (ans_DATE l), .bool true])
 | [a, b, c] => l19_call0 _ _ _ _ _ fnd_DATE (find_5 a b c) (.inr rfl)
 | [] => l19_bad0 _ _ _ _ fnd_DATE (.inr ⟨by decide, by simp only [List.map_cons, List.map_nil, List.length_cons, List.length_nil]; omega⟩)
 | [a] => l19_bad0 _ _ _ _ fnd_DATE (.inr ⟨by decide, by simp only [List.map_cons, List.map_nil, List.length_cons, List.length_nil]; omega⟩)
 | [a, b] => l19_bad0 _ _ _ _ fnd_DATE (.inr ⟨by decide, by simp only [List.map_cons, List.map_nil, List.length_cons, List.length_nil]; omega⟩)
 | a :: b :: c :: d :: l => l19_bad0 _ _ _ _ fnd_DATE (.inr ⟨by decide, by simp only [List.map_cons, List.map_nil, List.length_cons, List.length_nil]; omega⟩)
theorem rc_DATE (l : List Ar) : Ret Tryz.prog F_octavoref19_Call [.str ⟨#[68, 65, 84, 69]⟩, .row false (l.map cA)] (.tup [eV (ans_DATE l), .bool true]) := by
 have hk : knS ⟨#[68, 65, 84, 69]⟩ = true := by decide +kernel
 match l with
 | [] => exact rc_bad _ _ ([]) hk rct_DATE (.inr ⟨by decide, by simp only [List.length_cons, List.length_nil]; omega⟩)
 | [a] => exact rc_bad _ _ ([a]) hk rct_DATE (.inr ⟨by decide, by simp only [List.length_cons, List.length_nil]; omega⟩)
 | [a, b] => exact rc_bad _ _ ([a, b]) hk rct_DATE (.inr ⟨by decide, by simp only [List.length_cons, List.length_nil]; omega⟩)
 | a :: b :: c :: d :: l => exact rc_bad _ _ (a :: b :: c :: d :: l) hk rct_DATE (.inr ⟨by decide, by simp only [List.length_cons, List.length_nil]; omega⟩)
 | [a, b, c] =>
  have hK := ref19_Known ⟨#[68, 65, 84, 69]⟩
  rw [hk] at hK
  refine r_octavoref19_Call rfl fun hw => ?_
  clear hw
  repeat' ((conv => whnf); (first | refine csp (fun h => ?_) (fun h => ?_) | refine cllo (hK) (fun _ => ?_) | refine cllo (rct_DATE) (fun _ => ?_) | refine cllo (ref19_dates _ _ _) (fun _ => ?_) | (refine sda ?_ ?_; (focus (first | rfl | (simp; done)))) | refine sda ?_ ?_ | refine conk rfl ?_ | refine ldk rfl ?_ | refine mapk (fun x hx => ?_) | exact ⟨rfl, rfl⟩ | refine nilk (fun h => ?_) ?_ | intro hl))
  all_goals conv => whnf
  all_goals (try try simp only [tz] at *)
  all_goals (try omega)
  all_goals rfl
noncomputable def ans_EDATE : List Ar → GV := an2 fun a b => if 0 < (dyS (oneS a)).2 then badS (dyS (oneS a)).2 else if 0 < (intsL [b]).2 then badS (intsL [b]).2 else toldS (Lg.mnt (dyS (oneS a)).1 ((intsL [b]).1.getD 0 0) false).1 (Lg.mnt (dyS (oneS a)).1 ((intsL [b]).1.getD 0 0) false).2
theorem kn_EDATE : ∀ l : List Ar, Ret Tryz.prog F_logic_Call [.str ⟨#[69, 68, 65, 84, 69]⟩, .row false (l.map cA)] (.tup [eV (ans_EDATE l), .bool true])
 | [a, b] => l19_callB _ _ _ _ _ _ fnd_EDATE (months1 a b _) (.inr rfl)
 | [] => l19_badB _ _ _ _ _ fnd_EDATE (.inr ⟨by decide, by simp only [List.map_cons, List.map_nil, List.length_cons, List.length_nil]; omega⟩)
 | [a] => l19_badB _ _ _ _ _ fnd_EDATE (.inr ⟨by decide, by simp only [List.map_cons, List.map_nil, List.length_cons, List.length_nil]; omega⟩)
 | a :: b :: c :: l => l19_badB _ _ _ _ _ fnd_EDATE (.inr ⟨by decide, by simp only [List.map_cons, List.map_nil, List.length_cons, List.length_nil]; omega⟩)
theorem rc_EDATE (l : List Ar) : Ret Tryz.prog F_octavoref19_Call [.str ⟨#[69, 68, 65, 84, 69]⟩, .row false (l.map cA)] (.tup [eV (ans_EDATE l), .bool true]) := by
 have hk : knS ⟨#[69, 68, 65, 84, 69]⟩ = true := by decide +kernel
 match l with
 | [] => exact rc_bad _ _ ([]) hk rct_EDATE (.inr ⟨by decide, by simp only [List.length_cons, List.length_nil]; omega⟩)
 | [a] => exact rc_bad _ _ ([a]) hk rct_EDATE (.inr ⟨by decide, by simp only [List.length_cons, List.length_nil]; omega⟩)
 | a :: b :: c :: l => exact rc_bad _ _ (a :: b :: c :: l) hk rct_EDATE (.inr ⟨by decide, by simp only [List.length_cons, List.length_nil]; omega⟩)
 | [a, b] =>
  have hK := ref19_Known ⟨#[69, 68, 65, 84, 69]⟩
  rw [hk] at hK
  refine r_octavoref19_Call rfl fun hw => ?_
  clear hw
  repeat' ((conv => whnf); (first | refine csp (fun h => ?_) (fun h => ?_) | refine cllo (hK) (fun _ => ?_) | refine cllo (rct_EDATE) (fun _ => ?_) | refine cllo (rtwo_EDATE _ _) (fun _ => ?_) | (refine sda ?_ ?_; (focus (first | rfl | (simp; done)))) | refine sda ?_ ?_ | refine conk rfl ?_ | refine ldk rfl ?_ | refine mapk (fun x hx => ?_) | exact ⟨rfl, rfl⟩ | refine nilk (fun h => ?_) ?_ | intro hl))
  all_goals conv => whnf
  all_goals (try try simp only [tz] at *)
  all_goals (try omega)
  all_goals rfl
noncomputable def ans_EOMONTH : List Ar → GV := an2 fun a b => if 0 < (dyS (oneS a)).2 then badS (dyS (oneS a)).2 else if 0 < (intsL [b]).2 then badS (intsL [b]).2 else toldS (Lg.mnt (dyS (oneS a)).1 ((intsL [b]).1.getD 0 0) true).1 (Lg.mnt (dyS (oneS a)).1 ((intsL [b]).1.getD 0 0) true).2
theorem kn_EOMONTH : ∀ l : List Ar, Ret Tryz.prog F_logic_Call [.str ⟨#[69, 79, 77, 79, 78, 84, 72]⟩, .row false (l.map cA)] (.tup [eV (ans_EOMONTH l), .bool true])
 | [a, b] => l19_callB _ _ _ _ _ _ fnd_EOMONTH (months1 a b _) (.inr rfl)
 | [] => l19_badB _ _ _ _ _ fnd_EOMONTH (.inr ⟨by decide, by simp only [List.map_cons, List.map_nil, List.length_cons, List.length_nil]; omega⟩)
 | [a] => l19_badB _ _ _ _ _ fnd_EOMONTH (.inr ⟨by decide, by simp only [List.map_cons, List.map_nil, List.length_cons, List.length_nil]; omega⟩)
 | a :: b :: c :: l => l19_badB _ _ _ _ _ fnd_EOMONTH (.inr ⟨by decide, by simp only [List.map_cons, List.map_nil, List.length_cons, List.length_nil]; omega⟩)
theorem rc_EOMONTH (l : List Ar) : Ret Tryz.prog F_octavoref19_Call [.str ⟨#[69, 79, 77, 79, 78, 84, 72]⟩, .row false (l.map cA)] (.tup [eV (ans_EOMONTH l), .bool true]) := by
 have hk : knS ⟨#[69, 79, 77, 79, 78, 84, 72]⟩ = true := by decide +kernel
 match l with
 | [] => exact rc_bad _ _ ([]) hk rct_EOMONTH (.inr ⟨by decide, by simp only [List.length_cons, List.length_nil]; omega⟩)
 | [a] => exact rc_bad _ _ ([a]) hk rct_EOMONTH (.inr ⟨by decide, by simp only [List.length_cons, List.length_nil]; omega⟩)
 | a :: b :: c :: l => exact rc_bad _ _ (a :: b :: c :: l) hk rct_EOMONTH (.inr ⟨by decide, by simp only [List.length_cons, List.length_nil]; omega⟩)
 | [a, b] =>
  have hK := ref19_Known ⟨#[69, 79, 77, 79, 78, 84, 72]⟩
  rw [hk] at hK
  refine r_octavoref19_Call rfl fun hw => ?_
  clear hw
  repeat' ((conv => whnf); (first | refine csp (fun h => ?_) (fun h => ?_) | refine cllo (hK) (fun _ => ?_) | refine cllo (rct_EOMONTH) (fun _ => ?_) | refine cllo (rtwo_EOMONTH _ _) (fun _ => ?_) | (refine sda ?_ ?_; (focus (first | rfl | (simp; done)))) | refine sda ?_ ?_ | refine conk rfl ?_ | refine ldk rfl ?_ | refine mapk (fun x hx => ?_) | exact ⟨rfl, rfl⟩ | refine nilk (fun h => ?_) ?_ | intro hl))
  all_goals conv => whnf
  all_goals (try try simp only [tz] at *)
  all_goals (try omega)
  all_goals rfl
noncomputable def ans_DAYS : List Ar → GV := an2 fun a b => if 0 < (dyS (oneS a)).2 then badS (dyS (oneS a)).2 else if 0 < (dyS (oneS b)).2 then badS (dyS (oneS b)).2 else whS (IntKind.i64.wrap ((dyS (oneS a)).1 - (dyS (oneS b)).1))
theorem kn_DAYS : ∀ l : List Ar, Ret Tryz.prog F_logic_Call [.str ⟨#[68, 65, 89, 83]⟩, .row false (l.map cA)] (.tup [eV (ans_DAYS l), .bool true])
 | [a, b] => l19_call0 _ _ _ _ _ fnd_DAYS (find_6 a b) (.inr rfl)
 | [] => l19_bad0 _ _ _ _ fnd_DAYS (.inr ⟨by decide, by simp only [List.map_cons, List.map_nil, List.length_cons, List.length_nil]; omega⟩)
 | [a] => l19_bad0 _ _ _ _ fnd_DAYS (.inr ⟨by decide, by simp only [List.map_cons, List.map_nil, List.length_cons, List.length_nil]; omega⟩)
 | a :: b :: c :: l => l19_bad0 _ _ _ _ fnd_DAYS (.inr ⟨by decide, by simp only [List.map_cons, List.map_nil, List.length_cons, List.length_nil]; omega⟩)
theorem rc_DAYS (l : List Ar) : Ret Tryz.prog F_octavoref19_Call [.str ⟨#[68, 65, 89, 83]⟩, .row false (l.map cA)] (.tup [eV (ans_DAYS l), .bool true]) := by
 have hk : knS ⟨#[68, 65, 89, 83]⟩ = true := by decide +kernel
 match l with
 | [] => exact rc_bad _ _ ([]) hk rct_DAYS (.inr ⟨by decide, by simp only [List.length_cons, List.length_nil]; omega⟩)
 | [a] => exact rc_bad _ _ ([a]) hk rct_DAYS (.inr ⟨by decide, by simp only [List.length_cons, List.length_nil]; omega⟩)
 | a :: b :: c :: l => exact rc_bad _ _ (a :: b :: c :: l) hk rct_DAYS (.inr ⟨by decide, by simp only [List.length_cons, List.length_nil]; omega⟩)
 | [a, b] =>
  have hK := ref19_Known ⟨#[68, 65, 89, 83]⟩
  rw [hk] at hK
  refine r_octavoref19_Call rfl fun hw => ?_
  clear hw
  repeat' ((conv => whnf); (first | refine csp (fun h => ?_) (fun h => ?_) | refine cllo (hK) (fun _ => ?_) | refine cllo (rct_DAYS) (fun _ => ?_) | refine cllo (rtwo_DAYS _ _) (fun _ => ?_) | (refine sda ?_ ?_; (focus (first | rfl | (simp; done)))) | refine sda ?_ ?_ | refine conk rfl ?_ | refine ldk rfl ?_ | refine mapk (fun x hx => ?_) | exact ⟨rfl, rfl⟩ | refine nilk (fun h => ?_) ?_ | intro hl))
  all_goals conv => whnf
  all_goals (try try simp only [tz] at *)
  all_goals (try omega)
  all_goals rfl
noncomputable def ans_DATEVALUE : List Ar → GV := an1 fun a => if 0 < (tx (oneS a)).2 then badS (tx (oneS a)).2 else if (Dt.parse (tx (oneS a)).1).2 = true then whS (Dt.parse (tx (oneS a)).1).1 else badS 2
theorem kn_DATEVALUE : ∀ l : List Ar, Ret Tryz.prog F_logic_Call [.str ⟨#[68, 65, 84, 69, 86, 65, 76, 85, 69]⟩, .row false (l.map cA)] (.tup [eV (ans_DATEVALUE l), .bool true])
 | [a] => l19_call0 _ _ _ _ _ fnd_DATEVALUE (find_7 a) (.inr rfl)
 | [] => l19_bad0 _ _ _ _ fnd_DATEVALUE (.inr ⟨by decide, by simp only [List.map_cons, List.map_nil, List.length_cons, List.length_nil]; omega⟩)
 | a :: b :: l => l19_bad0 _ _ _ _ fnd_DATEVALUE (.inr ⟨by decide, by simp only [List.map_cons, List.map_nil, List.length_cons, List.length_nil]; omega⟩)
theorem rc_DATEVALUE (l : List Ar) : Ret Tryz.prog F_octavoref19_Call [.str ⟨#[68, 65, 84, 69, 86, 65, 76, 85, 69]⟩, .row false (l.map cA)] (.tup [eV (ans_DATEVALUE l), .bool true]) := by
 have hk : knS ⟨#[68, 65, 84, 69, 86, 65, 76, 85, 69]⟩ = true := by decide +kernel
 match l with
 | [] => exact rc_bad _ _ ([]) hk (rct_1 (by simp)) (.inr ⟨by decide, by simp only [List.length_cons, List.length_nil]; omega⟩)
 | a :: b :: l => exact rc_bad _ _ (a :: b :: l) hk (rct_1 (by simp)) (.inr ⟨by decide, by simp only [List.length_cons, List.length_nil]; omega⟩)
 | [a] =>
  have hK := ref19_Known ⟨#[68, 65, 84, 69, 86, 65, 76, 85, 69]⟩
  rw [hk] at hK
  have hb := parse_bd (tx (oneS a)).1
  have hI := ref17_Int (Dt.parse (tx (oneS a)).1).1 (by omega)
  have hc : Ret Tryz.prog F_octavoref19_count [.str ⟨#[68, 65, 84, 69, 86, 65, 76, 85, 69]⟩] (.int .i64 1) := (rct_1 (by simp))
  refine r_octavoref19_Call rfl fun hw => ?_
  clear hw
  repeat' ((conv => whnf); (first | refine csp (fun h => ?_) (fun h => ?_) | refine cllo (hK) (fun _ => ?_) | refine cllo (hc) (fun _ => ?_) | refine cllo (ref17_One _) (fun _ => ?_) | refine cllo (rToText_g _ (oneS_good a)) (fun _ => ?_) | refine cllo (ref19_bad _) (fun _ => ?_) | refine cllo (ref07_Parse _) (fun _ => ?_) | refine cllo (hI) (fun _ => ?_) | (refine sda ?_ ?_; (focus (first | rfl | (simp; done)))) | refine sda ?_ ?_ | refine conk rfl ?_ | refine ldk rfl ?_ | refine mapk (fun x hx => ?_) | exact ⟨rfl, rfl⟩ | refine nilk (fun h => ?_) ?_ | intro hl))
  all_goals conv => whnf
  all_goals (try try simp only [tz] at *)
  all_goals (try omega)
  ·rw [ans_DATEVALUE, an1, if_pos (by have := tx_good (oneS_good a); omega)]
  ·rw [ans_DATEVALUE, an1, if_neg (by omega), if_neg (by rw [h]; simp)]
  ·rw [ans_DATEVALUE, an1, if_neg (by omega), if_pos h]
noncomputable def ans_ISBLANK : List Ar → GV := an1 fun a => truS (decide ((oneS a).k = 0))
theorem kn_ISBLANK : ∀ l : List Ar, Ret Tryz.prog F_logic_Call [.str ⟨#[73, 83, 66, 76, 65, 78, 75]⟩, .row false (l.map cA)] (.tup [eV (ans_ISBLANK l), .bool true])
 | [a] => l19_callK _ _ _ _ _ _ _ fnd_ISBLANK (is1_k _ a) (.inr rfl)
 | [] => l19_badK _ _ _ _ _ _ fnd_ISBLANK (.inr ⟨by decide, by simp only [List.map_cons, List.map_nil, List.length_cons, List.length_nil]; omega⟩)
 | a :: b :: l => l19_badK _ _ _ _ _ _ fnd_ISBLANK (.inr ⟨by decide, by simp only [List.map_cons, List.map_nil, List.length_cons, List.length_nil]; omega⟩)
theorem rc_ISBLANK (l : List Ar) : Ret Tryz.prog F_octavoref19_Call [.str ⟨#[73, 83, 66, 76, 65, 78, 75]⟩, .row false (l.map cA)] (.tup [eV (ans_ISBLANK l), .bool true]) := by
 have hk : knS ⟨#[73, 83, 66, 76, 65, 78, 75]⟩ = true := by decide +kernel
 match l with
 | [] => exact rc_bad _ _ ([]) hk (rct_1 (by simp)) (.inr ⟨by decide, by simp only [List.length_cons, List.length_nil]; omega⟩)
 | a :: b :: l => exact rc_bad _ _ (a :: b :: l) hk (rct_1 (by simp)) (.inr ⟨by decide, by simp only [List.length_cons, List.length_nil]; omega⟩)
 | [a] => exact rc_kind _ (fun v => truS (decide (v.k = 0))) a hk (by simp) (by decide +kernel) rkd_ISBLANK
noncomputable def ans_ISNUMBER : List Ar → GV := an1 fun a => truS (decide ((oneS a).k = 1))
theorem kn_ISNUMBER : ∀ l : List Ar, Ret Tryz.prog F_logic_Call [.str ⟨#[73, 83, 78, 85, 77, 66, 69, 82]⟩, .row false (l.map cA)] (.tup [eV (ans_ISNUMBER l), .bool true])
 | [a] => l19_callK _ _ _ _ _ _ _ fnd_ISNUMBER (is1_k _ a) (.inr rfl)
 | [] => l19_badK _ _ _ _ _ _ fnd_ISNUMBER (.inr ⟨by decide, by simp only [List.map_cons, List.map_nil, List.length_cons, List.length_nil]; omega⟩)
 | a :: b :: l => l19_badK _ _ _ _ _ _ fnd_ISNUMBER (.inr ⟨by decide, by simp only [List.map_cons, List.map_nil, List.length_cons, List.length_nil]; omega⟩)
theorem rc_ISNUMBER (l : List Ar) : Ret Tryz.prog F_octavoref19_Call [.str ⟨#[73, 83, 78, 85, 77, 66, 69, 82]⟩, .row false (l.map cA)] (.tup [eV (ans_ISNUMBER l), .bool true]) := by
 have hk : knS ⟨#[73, 83, 78, 85, 77, 66, 69, 82]⟩ = true := by decide +kernel
 match l with
 | [] => exact rc_bad _ _ ([]) hk (rct_1 (by simp)) (.inr ⟨by decide, by simp only [List.length_cons, List.length_nil]; omega⟩)
 | a :: b :: l => exact rc_bad _ _ (a :: b :: l) hk (rct_1 (by simp)) (.inr ⟨by decide, by simp only [List.length_cons, List.length_nil]; omega⟩)
 | [a] => exact rc_kind _ (fun v => truS (decide (v.k = 1))) a hk (by simp) (by decide +kernel) rkd_ISNUMBER
noncomputable def ans_ISTEXT : List Ar → GV := an1 fun a => truS (decide ((oneS a).k = 2))
theorem kn_ISTEXT : ∀ l : List Ar, Ret Tryz.prog F_logic_Call [.str ⟨#[73, 83, 84, 69, 88, 84]⟩, .row false (l.map cA)] (.tup [eV (ans_ISTEXT l), .bool true])
 | [a] => l19_callK _ _ _ _ _ _ _ fnd_ISTEXT (is1_k _ a) (.inr rfl)
 | [] => l19_badK _ _ _ _ _ _ fnd_ISTEXT (.inr ⟨by decide, by simp only [List.map_cons, List.map_nil, List.length_cons, List.length_nil]; omega⟩)
 | a :: b :: l => l19_badK _ _ _ _ _ _ fnd_ISTEXT (.inr ⟨by decide, by simp only [List.map_cons, List.map_nil, List.length_cons, List.length_nil]; omega⟩)
theorem rc_ISTEXT (l : List Ar) : Ret Tryz.prog F_octavoref19_Call [.str ⟨#[73, 83, 84, 69, 88, 84]⟩, .row false (l.map cA)] (.tup [eV (ans_ISTEXT l), .bool true]) := by
 have hk : knS ⟨#[73, 83, 84, 69, 88, 84]⟩ = true := by decide +kernel
 match l with
 | [] => exact rc_bad _ _ ([]) hk (rct_1 (by simp)) (.inr ⟨by decide, by simp only [List.length_cons, List.length_nil]; omega⟩)
 | a :: b :: l => exact rc_bad _ _ (a :: b :: l) hk (rct_1 (by simp)) (.inr ⟨by decide, by simp only [List.length_cons, List.length_nil]; omega⟩)
 | [a] => exact rc_kind _ (fun v => truS (decide (v.k = 2))) a hk (by simp) (by decide +kernel) rkd_ISTEXT
noncomputable def ans_ISLOGICAL : List Ar → GV := an1 fun a => truS (decide ((oneS a).k = 3))
theorem kn_ISLOGICAL : ∀ l : List Ar, Ret Tryz.prog F_logic_Call [.str ⟨#[73, 83, 76, 79, 71, 73, 67, 65, 76]⟩, .row false (l.map cA)] (.tup [eV (ans_ISLOGICAL l), .bool true])
 | [a] => l19_callK _ _ _ _ _ _ _ fnd_ISLOGICAL (is1_k _ a) (.inr rfl)
 | [] => l19_badK _ _ _ _ _ _ fnd_ISLOGICAL (.inr ⟨by decide, by simp only [List.map_cons, List.map_nil, List.length_cons, List.length_nil]; omega⟩)
 | a :: b :: l => l19_badK _ _ _ _ _ _ fnd_ISLOGICAL (.inr ⟨by decide, by simp only [List.map_cons, List.map_nil, List.length_cons, List.length_nil]; omega⟩)
theorem rc_ISLOGICAL (l : List Ar) : Ret Tryz.prog F_octavoref19_Call [.str ⟨#[73, 83, 76, 79, 71, 73, 67, 65, 76]⟩, .row false (l.map cA)] (.tup [eV (ans_ISLOGICAL l), .bool true]) := by
 have hk : knS ⟨#[73, 83, 76, 79, 71, 73, 67, 65, 76]⟩ = true := by decide +kernel
 match l with
 | [] => exact rc_bad _ _ ([]) hk (rct_1 (by simp)) (.inr ⟨by decide, by simp only [List.length_cons, List.length_nil]; omega⟩)
 | a :: b :: l => exact rc_bad _ _ (a :: b :: l) hk (rct_1 (by simp)) (.inr ⟨by decide, by simp only [List.length_cons, List.length_nil]; omega⟩)
 | [a] => exact rc_kind _ (fun v => truS (decide (v.k = 3))) a hk (by simp) (by decide +kernel) rkd_ISLOGICAL
noncomputable def ans_ISERROR : List Ar → GV := an1 fun a => truS (decide ((oneS a).k = 4))
theorem kn_ISERROR : ∀ l : List Ar, Ret Tryz.prog F_logic_Call [.str ⟨#[73, 83, 69, 82, 82, 79, 82]⟩, .row false (l.map cA)] (.tup [eV (ans_ISERROR l), .bool true])
 | [a] => l19_callK _ _ _ _ _ _ _ fnd_ISERROR (is1_k _ a) (.inr rfl)
 | [] => l19_badK _ _ _ _ _ _ fnd_ISERROR (.inr ⟨by decide, by simp only [List.map_cons, List.map_nil, List.length_cons, List.length_nil]; omega⟩)
 | a :: b :: l => l19_badK _ _ _ _ _ _ fnd_ISERROR (.inr ⟨by decide, by simp only [List.map_cons, List.map_nil, List.length_cons, List.length_nil]; omega⟩)
theorem rc_ISERROR (l : List Ar) : Ret Tryz.prog F_octavoref19_Call [.str ⟨#[73, 83, 69, 82, 82, 79, 82]⟩, .row false (l.map cA)] (.tup [eV (ans_ISERROR l), .bool true]) := by
 have hk : knS ⟨#[73, 83, 69, 82, 82, 79, 82]⟩ = true := by decide +kernel
 match l with
 | [] => exact rc_bad _ _ ([]) hk (rct_1 (by simp)) (.inr ⟨by decide, by simp only [List.length_cons, List.length_nil]; omega⟩)
 | a :: b :: l => exact rc_bad _ _ (a :: b :: l) hk (rct_1 (by simp)) (.inr ⟨by decide, by simp only [List.length_cons, List.length_nil]; omega⟩)
 | [a] => exact rc_kind _ (fun v => truS (decide (v.k = 4))) a hk (by simp) (by decide +kernel) rkd_ISERROR
noncomputable def ans_ISNA : List Ar → GV := an1 fun a => truS (decide ((oneS a).k = 4) && (decide ((oneS a).n = 6) && decide ((oneS a).s = e0)))
theorem kn_ISNA : ∀ l : List Ar, Ret Tryz.prog F_logic_Call [.str ⟨#[73, 83, 78, 65]⟩, .row false (l.map cA)] (.tup [eV (ans_ISNA l), .bool true])
 | [a] => l19_callF _ _ _ _ _ _ fnd_ISNA (is1_0 _ _ kinds_2 a) (.inr rfl)
 | [] => l19_badF _ _ _ _ _ fnd_ISNA (.inr ⟨by decide, by simp only [List.map_cons, List.map_nil, List.length_cons, List.length_nil]; omega⟩)
 | a :: b :: l => l19_badF _ _ _ _ _ fnd_ISNA (.inr ⟨by decide, by simp only [List.map_cons, List.map_nil, List.length_cons, List.length_nil]; omega⟩)
theorem rc_ISNA (l : List Ar) : Ret Tryz.prog F_octavoref19_Call [.str ⟨#[73, 83, 78, 65]⟩, .row false (l.map cA)] (.tup [eV (ans_ISNA l), .bool true]) := by
 have hk : knS ⟨#[73, 83, 78, 65]⟩ = true := by decide +kernel
 match l with
 | [] => exact rc_bad _ _ ([]) hk (rct_1 (by simp)) (.inr ⟨by decide, by simp only [List.length_cons, List.length_nil]; omega⟩)
 | a :: b :: l => exact rc_bad _ _ (a :: b :: l) hk (rct_1 (by simp)) (.inr ⟨by decide, by simp only [List.length_cons, List.length_nil]; omega⟩)
 | [a] => exact rc_kind _ (fun v => truS (decide (v.k = 4) && (decide (v.n = 6) && decide (v.s = e0)))) a hk (by simp) (by decide +kernel) rkd_ISNA
noncomputable def ans_ISERR : List Ar → GV := an1 fun a => truS (decide ((oneS a).k = 4) && !decide ((oneS a).n = 6))
theorem kn_ISERR : ∀ l : List Ar, Ret Tryz.prog F_logic_Call [.str ⟨#[73, 83, 69, 82, 82]⟩, .row false (l.map cA)] (.tup [eV (ans_ISERR l), .bool true])
 | [a] => l19_callF _ _ _ _ _ _ fnd_ISERR (is1_0 _ _ kinds_3 a) (.inr rfl)
 | [] => l19_badF _ _ _ _ _ fnd_ISERR (.inr ⟨by decide, by simp only [List.map_cons, List.map_nil, List.length_cons, List.length_nil]; omega⟩)
 | a :: b :: l => l19_badF _ _ _ _ _ fnd_ISERR (.inr ⟨by decide, by simp only [List.map_cons, List.map_nil, List.length_cons, List.length_nil]; omega⟩)
theorem rc_ISERR (l : List Ar) : Ret Tryz.prog F_octavoref19_Call [.str ⟨#[73, 83, 69, 82, 82]⟩, .row false (l.map cA)] (.tup [eV (ans_ISERR l), .bool true]) := by
 have hk : knS ⟨#[73, 83, 69, 82, 82]⟩ = true := by decide +kernel
 match l with
 | [] => exact rc_bad _ _ ([]) hk (rct_1 (by simp)) (.inr ⟨by decide, by simp only [List.length_cons, List.length_nil]; omega⟩)
 | a :: b :: l => exact rc_bad _ _ (a :: b :: l) hk (rct_1 (by simp)) (.inr ⟨by decide, by simp only [List.length_cons, List.length_nil]; omega⟩)
 | [a] => exact rc_kind _ (fun v => truS (decide (v.k = 4) && !decide (v.n = 6))) a hk (by simp) (by decide +kernel) rkd_ISERR
noncomputable def ans_ISNONTEXT : List Ar → GV := an1 fun a => truS (!decide ((oneS a).k = 2))
theorem kn_ISNONTEXT : ∀ l : List Ar, Ret Tryz.prog F_logic_Call [.str ⟨#[73, 83, 78, 79, 78, 84, 69, 88, 84]⟩, .row false (l.map cA)] (.tup [eV (ans_ISNONTEXT l), .bool true])
 | [a] => l19_callF _ _ _ _ _ _ fnd_ISNONTEXT (is1_0 _ _ kinds_1 a) (.inr rfl)
 | [] => l19_badF _ _ _ _ _ fnd_ISNONTEXT (.inr ⟨by decide, by simp only [List.map_cons, List.map_nil, List.length_cons, List.length_nil]; omega⟩)
 | a :: b :: l => l19_badF _ _ _ _ _ fnd_ISNONTEXT (.inr ⟨by decide, by simp only [List.map_cons, List.map_nil, List.length_cons, List.length_nil]; omega⟩)
theorem rc_ISNONTEXT (l : List Ar) : Ret Tryz.prog F_octavoref19_Call [.str ⟨#[73, 83, 78, 79, 78, 84, 69, 88, 84]⟩, .row false (l.map cA)] (.tup [eV (ans_ISNONTEXT l), .bool true]) := by
 have hk : knS ⟨#[73, 83, 78, 79, 78, 84, 69, 88, 84]⟩ = true := by decide +kernel
 match l with
 | [] => exact rc_bad _ _ ([]) hk (rct_1 (by simp)) (.inr ⟨by decide, by simp only [List.length_cons, List.length_nil]; omega⟩)
 | a :: b :: l => exact rc_bad _ _ (a :: b :: l) hk (rct_1 (by simp)) (.inr ⟨by decide, by simp only [List.length_cons, List.length_nil]; omega⟩)
 | [a] => exact rc_kind _ (fun v => truS (!decide (v.k = 2))) a hk (by simp) (by decide +kernel) rkd_ISNONTEXT
noncomputable def ans_TYPE : List Ar → GV := an1 fun a => whS (typS (oneS a))
theorem kn_TYPE : ∀ l : List Ar, Ret Tryz.prog F_logic_Call [.str ⟨#[84, 89, 80, 69]⟩, .row false (l.map cA)] (.tup [eV (ans_TYPE l), .bool true])
 | [a] => l19_call0 _ _ _ _ _ fnd_TYPE (kinds_4 a) (.inr rfl)
 | [] => l19_bad0 _ _ _ _ fnd_TYPE (.inr ⟨by decide, by simp only [List.map_cons, List.map_nil, List.length_cons, List.length_nil]; omega⟩)
 | a :: b :: l => l19_bad0 _ _ _ _ fnd_TYPE (.inr ⟨by decide, by simp only [List.map_cons, List.map_nil, List.length_cons, List.length_nil]; omega⟩)
theorem rc_TYPE (l : List Ar) : Ret Tryz.prog F_octavoref19_Call [.str ⟨#[84, 89, 80, 69]⟩, .row false (l.map cA)] (.tup [eV (ans_TYPE l), .bool true]) := by
 have hk : knS ⟨#[84, 89, 80, 69]⟩ = true := by decide +kernel
 match l with
 | [] => exact rc_bad _ _ ([]) hk (rct_1 (by simp)) (.inr ⟨by decide, by simp only [List.length_cons, List.length_nil]; omega⟩)
 | a :: b :: l => exact rc_bad _ _ (a :: b :: l) hk (rct_1 (by simp)) (.inr ⟨by decide, by simp only [List.length_cons, List.length_nil]; omega⟩)
 | [a] => exact rc_kind _ (fun v => whS (typS v)) a hk (by simp) (by decide +kernel) rkd_TYPE
noncomputable def ans_ERRORTYPE : List Ar → GV := an1 fun a => if (oneS a).k = 4 then whS (oneS a).n else badS 6
theorem kn_ERRORTYPE : ∀ l : List Ar, Ret Tryz.prog F_logic_Call [.str ⟨#[69, 82, 82, 79, 82, 84, 89, 80, 69]⟩, .row false (l.map cA)] (.tup [eV (ans_ERRORTYPE l), .bool true])
 | [a] => l19_call0 _ _ _ _ _ fnd_ERRORTYPE (kinds_5 a) (.inr rfl)
 | [] => l19_bad0 _ _ _ _ fnd_ERRORTYPE (.inr ⟨by decide, by simp only [List.map_cons, List.map_nil, List.length_cons, List.length_nil]; omega⟩)
 | a :: b :: l => l19_bad0 _ _ _ _ fnd_ERRORTYPE (.inr ⟨by decide, by simp only [List.map_cons, List.map_nil, List.length_cons, List.length_nil]; omega⟩)
theorem rc_ERRORTYPE (l : List Ar) : Ret Tryz.prog F_octavoref19_Call [.str ⟨#[69, 82, 82, 79, 82, 84, 89, 80, 69]⟩, .row false (l.map cA)] (.tup [eV (ans_ERRORTYPE l), .bool true]) := by
 have hk : knS ⟨#[69, 82, 82, 79, 82, 84, 89, 80, 69]⟩ = true := by decide +kernel
 match l with
 | [] => exact rc_bad _ _ ([]) hk (rct_1 (by simp)) (.inr ⟨by decide, by simp only [List.length_cons, List.length_nil]; omega⟩)
 | a :: b :: l => exact rc_bad _ _ (a :: b :: l) hk (rct_1 (by simp)) (.inr ⟨by decide, by simp only [List.length_cons, List.length_nil]; omega⟩)
 | [a] => exact rc_kind _ (fun v => if v.k = 4 then whS v.n else badS 6) a hk (by simp) (by decide +kernel) rkd_ERRORTYPE
noncomputable def ans_YEAR : List Ar → GV := an1 fun a => if 0 < (dyS (oneS a)).2 then badS (dyS (oneS a)).2 else whS (Lg.prt3 (dyS (oneS a)).1).1
theorem kn_YEAR : ∀ l : List Ar, Ret Tryz.prog F_logic_Call [.str ⟨#[89, 69, 65, 82]⟩, .row false (l.map cA)] (.tup [eV (ans_YEAR l), .bool true])
 | [a] => l19_callK _ _ _ _ _ _ _ fnd_YEAR (of1_k 0 (fun d => whS (Lg.prt3 d).1) part1_0 a) (.inr rfl)
 | [] => l19_badK _ _ _ _ _ _ fnd_YEAR (.inr ⟨by decide, by simp only [List.map_cons, List.map_nil, List.length_cons, List.length_nil]; omega⟩)
 | a :: b :: l => l19_badK _ _ _ _ _ _ fnd_YEAR (.inr ⟨by decide, by simp only [List.map_cons, List.map_nil, List.length_cons, List.length_nil]; omega⟩)
theorem rc_YEAR (l : List Ar) : Ret Tryz.prog F_octavoref19_Call [.str ⟨#[89, 69, 65, 82]⟩, .row false (l.map cA)] (.tup [eV (ans_YEAR l), .bool true]) := by
 have hk : knS ⟨#[89, 69, 65, 82]⟩ = true := by decide +kernel
 match l with
 | [] => exact rc_bad _ _ ([]) hk (rct_1 (by simp)) (.inr ⟨by decide, by simp only [List.length_cons, List.length_nil]; omega⟩)
 | a :: b :: l => exact rc_bad _ _ (a :: b :: l) hk (rct_1 (by simp)) (.inr ⟨by decide, by simp only [List.length_cons, List.length_nil]; omega⟩)
 | [a] => exact rc_day _ (fun d => whS (Lg.prt3 d).1) a hk (by simp) (by decide +kernel) rod_YEAR
noncomputable def ans_MONTH : List Ar → GV := an1 fun a => if 0 < (dyS (oneS a)).2 then badS (dyS (oneS a)).2 else whS (Lg.prt3 (dyS (oneS a)).1).2.1
theorem kn_MONTH : ∀ l : List Ar, Ret Tryz.prog F_logic_Call [.str ⟨#[77, 79, 78, 84, 72]⟩, .row false (l.map cA)] (.tup [eV (ans_MONTH l), .bool true])
 | [a] => l19_callK _ _ _ _ _ _ _ fnd_MONTH (of1_k 1 (fun d => whS (Lg.prt3 d).2.1) part1_1 a) (.inr rfl)
 | [] => l19_badK _ _ _ _ _ _ fnd_MONTH (.inr ⟨by decide, by simp only [List.map_cons, List.map_nil, List.length_cons, List.length_nil]; omega⟩)
 | a :: b :: l => l19_badK _ _ _ _ _ _ fnd_MONTH (.inr ⟨by decide, by simp only [List.map_cons, List.map_nil, List.length_cons, List.length_nil]; omega⟩)
theorem rc_MONTH (l : List Ar) : Ret Tryz.prog F_octavoref19_Call [.str ⟨#[77, 79, 78, 84, 72]⟩, .row false (l.map cA)] (.tup [eV (ans_MONTH l), .bool true]) := by
 have hk : knS ⟨#[77, 79, 78, 84, 72]⟩ = true := by decide +kernel
 match l with
 | [] => exact rc_bad _ _ ([]) hk (rct_1 (by simp)) (.inr ⟨by decide, by simp only [List.length_cons, List.length_nil]; omega⟩)
 | a :: b :: l => exact rc_bad _ _ (a :: b :: l) hk (rct_1 (by simp)) (.inr ⟨by decide, by simp only [List.length_cons, List.length_nil]; omega⟩)
 | [a] => exact rc_day _ (fun d => whS (Lg.prt3 d).2.1) a hk (by simp) (by decide +kernel) rod_MONTH
noncomputable def ans_DAY : List Ar → GV := an1 fun a => if 0 < (dyS (oneS a)).2 then badS (dyS (oneS a)).2 else whS (Lg.prt3 (dyS (oneS a)).1).2.2
theorem kn_DAY : ∀ l : List Ar, Ret Tryz.prog F_logic_Call [.str ⟨#[68, 65, 89]⟩, .row false (l.map cA)] (.tup [eV (ans_DAY l), .bool true])
 | [a] => l19_callK _ _ _ _ _ _ _ fnd_DAY (of1_k 2 (fun d => whS (Lg.prt3 d).2.2) part1_2 a) (.inr rfl)
 | [] => l19_badK _ _ _ _ _ _ fnd_DAY (.inr ⟨by decide, by simp only [List.map_cons, List.map_nil, List.length_cons, List.length_nil]; omega⟩)
 | a :: b :: l => l19_badK _ _ _ _ _ _ fnd_DAY (.inr ⟨by decide, by simp only [List.map_cons, List.map_nil, List.length_cons, List.length_nil]; omega⟩)
theorem rc_DAY (l : List Ar) : Ret Tryz.prog F_octavoref19_Call [.str ⟨#[68, 65, 89]⟩, .row false (l.map cA)] (.tup [eV (ans_DAY l), .bool true]) := by
 have hk : knS ⟨#[68, 65, 89]⟩ = true := by decide +kernel
 match l with
 | [] => exact rc_bad _ _ ([]) hk (rct_1 (by simp)) (.inr ⟨by decide, by simp only [List.length_cons, List.length_nil]; omega⟩)
 | a :: b :: l => exact rc_bad _ _ (a :: b :: l) hk (rct_1 (by simp)) (.inr ⟨by decide, by simp only [List.length_cons, List.length_nil]; omega⟩)
 | [a] => exact rc_day _ (fun d => whS (Lg.prt3 d).2.2) a hk (by simp) (by decide +kernel) rod_DAY
noncomputable def ans_WEEKDAY : List Ar → GV := an1 fun a => if 0 < (dyS (oneS a)).2 then badS (dyS (oneS a)).2 else whS ((dyS (oneS a)).1 % 7 + 1)
theorem kn_WEEKDAY : ∀ l : List Ar, Ret Tryz.prog F_logic_Call [.str ⟨#[87, 69, 69, 75, 68, 65, 89]⟩, .row false (l.map cA)] (.tup [eV (ans_WEEKDAY l), .bool true])
 | [a] => l19_callF _ _ _ _ _ _ fnd_WEEKDAY (of1_0 _ (fun d => whS (d % 7 + 1)) days_1 a) (.inr rfl)
 | [] => l19_badF _ _ _ _ _ fnd_WEEKDAY (.inr ⟨by decide, by simp only [List.map_cons, List.map_nil, List.length_cons, List.length_nil]; omega⟩)
 | a :: b :: l => l19_badF _ _ _ _ _ fnd_WEEKDAY (.inr ⟨by decide, by simp only [List.map_cons, List.map_nil, List.length_cons, List.length_nil]; omega⟩)
theorem rc_WEEKDAY (l : List Ar) : Ret Tryz.prog F_octavoref19_Call [.str ⟨#[87, 69, 69, 75, 68, 65, 89]⟩, .row false (l.map cA)] (.tup [eV (ans_WEEKDAY l), .bool true]) := by
 have hk : knS ⟨#[87, 69, 69, 75, 68, 65, 89]⟩ = true := by decide +kernel
 match l with
 | [] => exact rc_bad _ _ ([]) hk (rct_1 (by simp)) (.inr ⟨by decide, by simp only [List.length_cons, List.length_nil]; omega⟩)
 | a :: b :: l => exact rc_bad _ _ (a :: b :: l) hk (rct_1 (by simp)) (.inr ⟨by decide, by simp only [List.length_cons, List.length_nil]; omega⟩)
 | [a] => exact rc_day _ (fun d => whS (d % 7 + 1)) a hk (by simp) (by decide +kernel) rod_WEEKDAY
noncomputable def ans_WEEKNUM : List Ar → GV := an1 fun a => if 0 < (dyS (oneS a)).2 then badS (dyS (oneS a)).2 else whS (wkS (dyS (oneS a)).1)
theorem kn_WEEKNUM : ∀ l : List Ar, Ret Tryz.prog F_logic_Call [.str ⟨#[87, 69, 69, 75, 78, 85, 77]⟩, .row false (l.map cA)] (.tup [eV (ans_WEEKNUM l), .bool true])
 | [a] => l19_callF _ _ _ _ _ _ fnd_WEEKNUM (of1_0 _ (fun d => whS (wkS d)) days_2 a) (.inr rfl)
 | [] => l19_badF _ _ _ _ _ fnd_WEEKNUM (.inr ⟨by decide, by simp only [List.map_cons, List.map_nil, List.length_cons, List.length_nil]; omega⟩)
 | a :: b :: l => l19_badF _ _ _ _ _ fnd_WEEKNUM (.inr ⟨by decide, by simp only [List.map_cons, List.map_nil, List.length_cons, List.length_nil]; omega⟩)
theorem rc_WEEKNUM (l : List Ar) : Ret Tryz.prog F_octavoref19_Call [.str ⟨#[87, 69, 69, 75, 78, 85, 77]⟩, .row false (l.map cA)] (.tup [eV (ans_WEEKNUM l), .bool true]) := by
 have hk : knS ⟨#[87, 69, 69, 75, 78, 85, 77]⟩ = true := by decide +kernel
 match l with
 | [] => exact rc_bad _ _ ([]) hk (rct_1 (by simp)) (.inr ⟨by decide, by simp only [List.length_cons, List.length_nil]; omega⟩)
 | a :: b :: l => exact rc_bad _ _ (a :: b :: l) hk (rct_1 (by simp)) (.inr ⟨by decide, by simp only [List.length_cons, List.length_nil]; omega⟩)
 | [a] => exact rc_day _ (fun d => whS (wkS d)) a hk (by simp) (by decide +kernel) rod_WEEKNUM
noncomputable def ans_DATETEXT : List Ar → GV := an1 fun a => if 0 < (dyS (oneS a)).2 then badS (dyS (oneS a)).2 else ⟨2, 0, dtx (dyS (oneS a)).1⟩
theorem kn_DATETEXT : ∀ l : List Ar, Ret Tryz.prog F_logic_Call [.str ⟨#[68, 65, 84, 69, 84, 69, 88, 84]⟩, .row false (l.map cA)] (.tup [eV (ans_DATETEXT l), .bool true])
 | [a] => l19_callF _ _ _ _ _ _ fnd_DATETEXT (of1_0 _ (fun d => ⟨2, 0, dtx d⟩) days_3 a) (.inr rfl)
 | [] => l19_badF _ _ _ _ _ fnd_DATETEXT (.inr ⟨by decide, by simp only [List.map_cons, List.map_nil, List.length_cons, List.length_nil]; omega⟩)
 | a :: b :: l => l19_badF _ _ _ _ _ fnd_DATETEXT (.inr ⟨by decide, by simp only [List.map_cons, List.map_nil, List.length_cons, List.length_nil]; omega⟩)
theorem rc_DATETEXT (l : List Ar) : Ret Tryz.prog F_octavoref19_Call [.str ⟨#[68, 65, 84, 69, 84, 69, 88, 84]⟩, .row false (l.map cA)] (.tup [eV (ans_DATETEXT l), .bool true]) := by
 have hk : knS ⟨#[68, 65, 84, 69, 84, 69, 88, 84]⟩ = true := by decide +kernel
 match l with
 | [] => exact rc_bad _ _ ([]) hk (rct_1 (by simp)) (.inr ⟨by decide, by simp only [List.length_cons, List.length_nil]; omega⟩)
 | a :: b :: l => exact rc_bad _ _ (a :: b :: l) hk (rct_1 (by simp)) (.inr ⟨by decide, by simp only [List.length_cons, List.length_nil]; omega⟩)
 | [a] => exact rc_day _ (fun d => ⟨2, 0, dtx d⟩) a hk (by simp) (by decide +kernel) rod_DATETEXT
end Go.Proofs.YtllceoncpgebpaaGreatDoor
set_option maxRecDepth 100000
set_option linter.all false
namespace Go.Proofs.YtllceoncpgebpaaGreatDoor
open Ab R
theorem lk_0 {nm : ByteArray} {f : FuncId} {n : Int} (hf : Ret Tryz.prog F_logic_find [.str nm] (.tup [.fn f [] [], .int .i64 n])) : Ret Tryz.prog F_logic_Known [.str nm] (.bool true) := by
 refine r_logic_Known rfl fun hw => ?_
 clear hw
 repeat' ((conv => whnf); (first | refine csp (fun h => ?_) (fun h => ?_) | refine cllo (hf) (fun _ => ?_) | (refine sda ?_ ?_; (focus (first | rfl | (simp; done)))) | refine sda ?_ ?_ | refine conk rfl ?_ | refine ldk rfl ?_ | refine mapk (fun x hx => ?_) | exact ⟨rfl, rfl⟩ | refine nilk (fun h => ?_) ?_ | intro hl))
 all_goals conv => whnf
 all_goals rfl
theorem lk_F {nm : ByteArray} {f : FuncId} {g : FuncId} {n : Int} (hf : Ret Tryz.prog F_logic_find [.str nm] (.tup [.fn f [] [.elem [.fn g [] []]], .int .i64 n])) : Ret Tryz.prog F_logic_Known [.str nm] (.bool true) := by
 refine r_logic_Known rfl fun hw => ?_
 clear hw
 repeat' ((conv => whnf); (first | refine csp (fun h => ?_) (fun h => ?_) | refine cllo (hf) (fun _ => ?_) | (refine sda ?_ ?_; (focus (first | rfl | (simp; done)))) | refine sda ?_ ?_ | refine conk rfl ?_ | refine ldk rfl ?_ | refine mapk (fun x hx => ?_) | exact ⟨rfl, rfl⟩ | refine nilk (fun h => ?_) ?_ | intro hl))
 all_goals conv => whnf
 all_goals rfl
theorem lk_K {nm : ByteArray} {f : FuncId} {g : FuncId} {k : Int} {n : Int} (hf : Ret Tryz.prog F_logic_find [.str nm] (.tup [.fn f [] [.elem [.fn g [] [.elem [.int .i64 k]]]], .int .i64 n])) : Ret Tryz.prog F_logic_Known [.str nm] (.bool true) := by
 refine r_logic_Known rfl fun hw => ?_
 clear hw
 repeat' ((conv => whnf); (first | refine csp (fun h => ?_) (fun h => ?_) | refine cllo (hf) (fun _ => ?_) | (refine sda ?_ ?_; (focus (first | rfl | (simp; done)))) | refine sda ?_ ?_ | refine conk rfl ?_ | refine ldk rfl ?_ | refine mapk (fun x hx => ?_) | exact ⟨rfl, rfl⟩ | refine nilk (fun h => ?_) ?_ | intro hl))
 all_goals conv => whnf
 all_goals rfl
theorem lk_B {nm : ByteArray} {f : FuncId} {b : Bool} {n : Int} (hf : Ret Tryz.prog F_logic_find [.str nm] (.tup [.fn f [] [.elem [.bool b]], .int .i64 n])) : Ret Tryz.prog F_logic_Known [.str nm] (.bool true) := by
 refine r_logic_Known rfl fun hw => ?_
 clear hw
 repeat' ((conv => whnf); (first | refine csp (fun h => ?_) (fun h => ?_) | refine cllo (hf) (fun _ => ?_) | (refine sda ?_ ?_; (focus (first | rfl | (simp; done)))) | refine sda ?_ ?_ | refine conk rfl ?_ | refine ldk rfl ?_ | refine mapk (fun x hx => ?_) | exact ⟨rfl, rfl⟩ | refine nilk (fun h => ?_) ?_ | intro hl))
 all_goals conv => whnf
 all_goals rfl
theorem lk_V {nm : ByteArray} {f : FuncId} {v : GV} {n : Int} (hf : Ret Tryz.prog F_logic_find [.str nm] (.tup [.fn f [] [.elem (cV v)], .int .i64 n])) : Ret Tryz.prog F_logic_Known [.str nm] (.bool true) := by
 refine r_logic_Known rfl fun hw => ?_
 clear hw
 repeat' ((conv => whnf); (first | refine csp (fun h => ?_) (fun h => ?_) | refine cllo (hf) (fun _ => ?_) | (refine sda ?_ ?_; (focus (first | rfl | (simp; done)))) | refine sda ?_ ?_ | refine conk rfl ?_ | refine ldk rfl ?_ | refine mapk (fun x hx => ?_) | exact ⟨rfl, rfl⟩ | refine nilk (fun h => ?_) ?_ | intro hl))
 all_goals conv => whnf
 all_goals rfl
theorem lk_none (nm : ByteArray) (hn : nm ∉ names19) : Ret Tryz.prog F_logic_Known [.str nm] (.bool false) := by
 refine r_logic_Known rfl fun hw => ?_
 clear hw
 repeat' ((conv => whnf); (first | refine csp (fun h => ?_) (fun h => ?_) | refine cllo (find_none nm hn) (fun _ => ?_) | (refine sda ?_ ?_; (focus (first | rfl | (simp; done)))) | refine sda ?_ ?_ | refine conk rfl ?_ | refine ldk rfl ?_ | refine mapk (fun x hx => ?_) | exact ⟨rfl, rfl⟩ | refine nilk (fun h => ?_) ?_ | intro hl))
 all_goals conv => whnf
 all_goals rfl
theorem rc_none (nm : ByteArray) (hn : nm ∉ names19) (l : List (List V)) : Ret Tryz.prog F_octavoref19_Call [.str nm, .row false l] (.tup [eV ⟨0, 0, e0⟩, .bool false]) := by
 have hk := ref19_Known nm
 rw [knS_out hn] at hk
 refine r_octavoref19_Call rfl fun hw => ?_
 clear hw
 repeat' ((conv => whnf); (first | refine csp (fun h => ?_) (fun h => ?_) | refine cllo (hk) (fun _ => ?_) | (refine sda ?_ ?_; (focus (first | rfl | (simp; done)))) | refine sda ?_ ?_ | refine conk rfl ?_ | refine ldk rfl ?_ | refine mapk (fun x hx => ?_) | exact ⟨rfl, rfl⟩ | refine nilk (fun h => ?_) ?_ | intro hl))
 all_goals conv => whnf
def Both (nm : ByteArray) (l : List Ar) : Prop := ∃ (v : GV) (b : Bool), Ret Tryz.prog F_logic_Call [.str nm, .row false (l.map cA)] (.tup [eV v, .bool b]) ∧ Ret Tryz.prog F_octavoref19_Call [.str nm, .row false (l.map cA)] (.tup [eV v, .bool b]) ∧ Ret Tryz.prog F_logic_Known [.str nm] (.bool b) ∧ Ret Tryz.prog F_octavoref19_Known [.str nm] (.bool b)
theorem rk_in {nm : ByteArray} (h : nm ∈ names19) : Ret Tryz.prog F_octavoref19_Known [.str nm] (.bool true) := knS_in h ▸ ref19_Known nm
theorem both19 (nm : ByteArray) (l : List Ar) : Both nm l := by
 by_cases hn : nm ∈ names19
 ·have hr := rk_in hn
  simp only [names19, List.mem_append, List.mem_cons, List.not_mem_nil, or_false, or_assoc] at hn
  rcases hn with rfl | rfl | rfl | rfl | rfl | rfl | rfl | rfl | rfl | rfl | rfl | rfl | rfl | rfl | rfl | rfl | rfl | rfl | rfl | rfl | rfl | rfl | rfl | rfl | rfl | rfl | rfl | rfl
  ·exact ⟨_, _, kn_AND l, rc_AND l, lk_F fnd_AND, hr⟩
  ·exact ⟨_, _, kn_OR l, rc_OR l, lk_F fnd_OR, hr⟩
  ·exact ⟨_, _, kn_XOR l, rc_XOR l, lk_F fnd_XOR, hr⟩
  ·exact ⟨_, _, kn_NOT l, rc_NOT l, lk_0 fnd_NOT, hr⟩
  ·exact ⟨_, _, kn_TRUE l, rc_TRUE l, lk_V fnd_TRUE, hr⟩
  ·exact ⟨_, _, kn_FALSE l, rc_FALSE l, lk_V fnd_FALSE, hr⟩
  ·exact ⟨_, _, kn_NA l, rc_NA l, lk_V fnd_NA, hr⟩
  ·exact ⟨_, _, kn_DATE l, rc_DATE l, lk_0 fnd_DATE, hr⟩
  ·exact ⟨_, _, kn_EDATE l, rc_EDATE l, lk_B fnd_EDATE, hr⟩
  ·exact ⟨_, _, kn_EOMONTH l, rc_EOMONTH l, lk_B fnd_EOMONTH, hr⟩
  ·exact ⟨_, _, kn_DAYS l, rc_DAYS l, lk_0 fnd_DAYS, hr⟩
  ·exact ⟨_, _, kn_DATEVALUE l, rc_DATEVALUE l, lk_0 fnd_DATEVALUE, hr⟩
  ·exact ⟨_, _, kn_ISBLANK l, rc_ISBLANK l, lk_K fnd_ISBLANK, hr⟩
  ·exact ⟨_, _, kn_ISNUMBER l, rc_ISNUMBER l, lk_K fnd_ISNUMBER, hr⟩
  ·exact ⟨_, _, kn_ISTEXT l, rc_ISTEXT l, lk_K fnd_ISTEXT, hr⟩
  ·exact ⟨_, _, kn_ISLOGICAL l, rc_ISLOGICAL l, lk_K fnd_ISLOGICAL, hr⟩
  ·exact ⟨_, _, kn_ISERROR l, rc_ISERROR l, lk_K fnd_ISERROR, hr⟩
  ·exact ⟨_, _, kn_ISNONTEXT l, rc_ISNONTEXT l, lk_F fnd_ISNONTEXT, hr⟩
  ·exact ⟨_, _, kn_ISNA l, rc_ISNA l, lk_F fnd_ISNA, hr⟩
  ·exact ⟨_, _, kn_ISERR l, rc_ISERR l, lk_F fnd_ISERR, hr⟩
  ·exact ⟨_, _, kn_TYPE l, rc_TYPE l, lk_0 fnd_TYPE, hr⟩
  ·exact ⟨_, _, kn_ERRORTYPE l, rc_ERRORTYPE l, lk_0 fnd_ERRORTYPE, hr⟩
  ·exact ⟨_, _, kn_YEAR l, rc_YEAR l, lk_K fnd_YEAR, hr⟩
  ·exact ⟨_, _, kn_MONTH l, rc_MONTH l, lk_K fnd_MONTH, hr⟩
  ·exact ⟨_, _, kn_DAY l, rc_DAY l, lk_K fnd_DAY, hr⟩
  ·exact ⟨_, _, kn_WEEKDAY l, rc_WEEKDAY l, lk_F fnd_WEEKDAY, hr⟩
  ·exact ⟨_, _, kn_WEEKNUM l, rc_WEEKNUM l, lk_F fnd_WEEKNUM, hr⟩
  ·exact ⟨_, _, kn_DATETEXT l, rc_DATETEXT l, lk_F fnd_DATETEXT, hr⟩
 ·have hr := ref19_Known nm
  rw [knS_out hn] at hr
  exact ⟨_, _, call_none nm hn _, rc_none nm hn _, lk_none nm hn, hr⟩
end Go.Proofs.YtllceoncpgebpaaGreatDoor
