/- What the functions answer, and the law. -/
import Derived.Test.YtcbknemdidehlaaGreatDoorR
import Derived.Test.YtcbknemdidehlaaGreatDoorB
import Derived.Test.YtcbknemdidehlaaGreatDoorPl
import Derived.Test.YtcbknemdidehlaaGreatDoorSh
import Derived.WalkKit
import Derived.BigCall
import Derived.Test.YtcbknemdidehlaaGreatDoorPx4
import Derived.Test.YtcbknemdidehlaaGreatDoorPx2
import Derived.Test.YtcbknemdidehlaaGreatDoorPx3
import Derived.Test.YtcbknemdidehlaaGreatDoorPx1
set_option maxRecDepth 100000
set_option linter.all false
namespace Go.Proofs.YtcbknemdidehlaaGreatDoor
open Ab R
theorem tz : (∀ (p : Prop) [Decidable p], (decide p = true) = p) ∧ (∀ (p : Prop) [Decidable p], (decide p = false) = ¬p) ∧ (∀ b : Bool, ((!b) = true) = (b = false)) ∧ (∀ b : Bool, ((!b) = false) = (b = true)) ∧
  (∀ (α β : Type) (f : α → β) (l : List α), (l.map f).length = l.length) ∧ (∀ a b : Int, (¬a < b) = (b ≤ a)) ∧ (∀ a b : Int, (¬a ≤ b) = (b < a)) ∧ (∀ (p : Prop) [Decidable p], (¬¬p) = p) ∧ (∀ (α : Type) [LT α] (a b : α), (a > b) = (b < a)) ∧ ∀ (α : Type) [LE α] (a b : α), (a ≥ b) = (b ≤ a) :=
 ⟨fun p _ => by simp, fun p _ => by simp, fun b => by simp, fun b => by simp, fun α β f l => by simp, fun a b => by simp, fun a b => by simp, fun p _ => by simp, fun α _ a b => rfl, fun α _ a b => rfl⟩
theorem cllo {P : Program} {g : FuncId} {args : List V} {r : V} {K : V → Prop} {B : Prop} (h : Ret P g args r) (k : wfV 8 r → K r) : (∃ r, Ret P g args r ∧ (wfV 8 r → K r)) ∨ B := .inl ⟨r, h, k⟩
theorem clll {P : Program} {g : FuncId} {args : List V} {s s' : List O} {r : V} {K : V → List O → Prop} {A C : Prop} (h : RetL P g args s r s') (k : wfV 8 r → wfL s' → K r s') : A ∨ (∃ r s', RetL P g args s r s' ∧ (wfV 8 r → wfL s' → K r s')) ∨ C := .inr (.inl ⟨r, s', h, k⟩)
theorem clqi {P : Program} {g : FuncId} {args : List V} {s : List O} {K : V → List O → Prop} {A C D : Prop} (h : RetQ P g args s fun r s' => wfV 8 r → wfL s' → K r s') : A ∨ C ∨ (∃ Q, RetQ P g args s Q ∧ ∀ r s', Q r s' → wfV 8 r → wfL s' → K r s') ∨ D := .inr (.inr (.inl ⟨_, h, fun _ _ q => q⟩))
theorem fLm {α : Type} {s : List O} {l : List α} {f : α → List Nat} {K : List O → Prop} (h : l.flatMap f = []) (k : K s) : fL fO (Ab.mark s (l.flatMap f)) K := by rw [fL_eq fO_eq, h]; exact k
theorem fVk {n : Nat} {v : V} {K : V → Prop} (h : K v) : fV n v K := by rw [fV_eq]; exact h
theorem fLVk {n : Nat} {l : List V} {K : List V → Prop} (h : K l) : fL (fV n) l K := by rw [fL_eq (fV_eq n)]; exact h
theorem fWk {n : Nat} {v : V} {K : V → Prop} (h : K v) : fW n v K := by rw [fW_eq]; exact h
theorem pickk : ∀ {cs : List Nat} {n : Nat} {K : Nat → Prop}, K n → pickN cs n K
 | [], _, _, h => h
 | c :: cs, n, K, h => by
  simp only [pickN]
  cases q : Nat.beq c n
  ·exact pickk h
  ·rw [Nat.eq_of_beq_eq_true q]; exact h
theorem pickk0 {cs : List Nat} {c n : Nat} {K : Nat → Prop} (h : K n) : pickN (c :: cs) n K := pickk h
structure Sv (s : List O) : Prop where
theorem fLk {s : List O} {K : List O → Prop} (_ : Sv s) (h : K s) : fL fO s K := by rw [fL_eq fO_eq]; exact h
theorem nilk {p A B : Prop} (a : p → A) (b : B) : (p → A) ∧ B := ⟨a, b⟩
theorem sda {p q : Prop} (h : p) (k : q) : Sd p ∧ q := ⟨⟨h⟩, k⟩
theorem conk {els : List (List V)} {i : Nat} {c : List V} {K : List V → Prop} (h : els[i]? = some c) (k : K c) : ∀ cs, els[i]? = some cs → K cs := fun cs hcs => by
 rw [h] at hcs
 rw [← Option.some.inj hcs]
 exact k
theorem ldk {o : Option V} {w : V} {K : V → Prop} (h : o = some w) (k : K w) : ∀ v, o = some v → K v := fun v hv => by
 rw [h] at hv
 rw [← Option.some.inj hv]
 exact k
theorem mapk {α : Type} {l : List α} {f : α → List V} {i : Nat} {K : List V → Prop} (h : ∀ x, l[i]? = some x → K (f x)) : ∀ cs, (l.map f)[i]? = some cs → K cs := fun cs hcs => by
 rw [List.getElem?_map] at hcs
 cases hx : l[i]? with
 | none => rw [hx] at hcs; cases hcs
 | some x => rw [hx] at hcs; obtain rfl := Option.some.inj hcs; exact h x hx
theorem eqk {α : Type} {o : Option α} {w : α} {K : α → Prop} (h : o = some w) (k : K w) : ∀ v, o = some v → K v := fun v hv => by
 rw [h] at hv
 rw [← Option.some.inj hv]
 exact k
theorem leftk1 {es : List (Nat × V × V)} {seen : List Nat} {a : Nat × V × V} {K : Nat × V × V → Prop} (h : leftM es seen = [a]) (k : K a) : ∀ y, y ∈ leftM es seen → K y := fun y hy => by
 rw [h, List.mem_singleton] at hy
 rw [hy]
 exact k
theorem leftk0 {es : List (Nat × V × V)} {seen : List Nat} {K : Nat × V × V → Prop} (h : leftM es seen = []) : ∀ y, y ∈ leftM es seen → K y := fun y hy => by
 rw [h] at hy
 cases hy
theorem bytk {els : List (List V)} {l : List Int} {K : List Int → Prop} (h : bytesV els = some l) (k : K l) : (∀ l, bytesV els = some l → K l) ∧ Sd ((bytesV els).isSome = true) := by
 refine ⟨fun l' hl => ?_, ⟨by rw [h]; rfl⟩⟩
 rw [h] at hl
 rw [← Option.some.inj hl]
 exact k
theorem bytk8 {els : List (List V)} {c : List UInt8} {K : List Int → Prop} (h : els = c.map fun c => [V.int .u8 c.toNat]) (k : K (c.map fun c => (c.toNat : Int))) : (∀ l, bytesV els = some l → K l) ∧ Sd ((bytesV els).isSome = true) :=
 bytk (h ▸ bytesV_map (fun c : UInt8 => (c.toNat : Int)) c) k
structure GV where
 k : Int
 n : Int
 s : ByteArray
abbrev cV (v : GV) : List V := [.int .i64 v.k, .int .i64 v.n, .str v.s]
abbrev eV (v : GV) : V := .agg (cV v)
structure Ar where
 rows : Int
 cols : Int
 l : List GV
 many : Bool
abbrev cA (a : Ar) : List V := [.int .i64 a.rows, .int .i64 a.cols, .row false (a.l.map cV), .bool a.many]
abbrev eA (a : Ar) : V := .agg (cA a)
abbrev e0 : ByteArray := ⟨#[]⟩
def badS (n : Int) : GV := ⟨4, if n < 1 ∨ n > 8 then 2 else n, e0⟩
theorem value_Bad (n : Int) : Ret Tryz.prog F_value_Bad [.int .i64 n] (eV (badS n)) := by
 refine r_value_Bad rfl fun _ => ?_
 ((conv => whnf); refine csp (fun h => ?_) (fun h => ?_))
 ·conv => whnf
  simp_all [badS]
 ·((conv => whnf); refine csp (fun h => ?_) (fun h => ?_))
  ·conv => whnf
   simp_all [badS]
  ·conv => whnf
   simp_all [badS]
   omega
def goodN (n : Int) : Bool := decide (-100000000000 ≤ n ∧ n ≤ 100000000000)
theorem num_Good (n : Int) : Ret Tryz.prog F_num_Good [.int .i64 n] (.bool (goodN n)) := by
 refine r_num_Good rfl fun _ => ?_
 ((conv => whnf); refine csp (fun h => ?_) (fun h => ?_))
 ·conv => whnf
  simp_all [goodN]
 ·conv => whnf
  simp_all [goodN]
  try omega
def ofS (n : Int) (ok : Bool) : GV := if ok && goodN n then ⟨1, n, e0⟩ else badS 5
theorem value_Of (n : Int) (ok : Bool) : Ret Tryz.prog F_value_Of [.int .i64 n, .bool ok] (eV (ofS n ok)) := by
 refine r_value_Of rfl fun _ => ?_
 ((conv => whnf); refine csp (fun h => ?_) (fun h => ?_))
 ·refine cllo (num_Good _) (fun _ => ?_)
  ((conv => whnf); refine csp (fun h => ?_) (fun h => ?_))
  ·conv => whnf
   simp_all [ofS]
  ·refine cllo (value_Bad _) (fun _ => ?_)
   conv => whnf
   simp_all [ofS]
 ·refine cllo (value_Bad _) (fun _ => ?_)
  conv => whnf
  simp_all [ofS]
def ownS (v : GV) : V :=
 if v.k = 0 then .iface 113 (.agg []) else if v.k = 1 then .iface 114 (.int .i64 v.n) else if v.k = 2 then .iface 116 (.str v.s)
 else if v.k = 3 then .iface 115 (.bool (!decide (v.n = 0))) else if v.k = 4 then .iface 118 (.int .i64 v.n) else .nilI
theorem value_own (v : GV) : Ret Tryz.prog F_value_own [eV v] (ownS v) := by
 refine r_value_own rfl fun _ => ?_
 ((conv => whnf); refine csp (fun h => ?_) (fun h => ?_))
 ·conv => whnf
  simp_all [ownS]
 ((conv => whnf); refine csp (fun h => ?_) (fun h => ?_))
 ·conv => whnf
  simp_all [ownS]
 ((conv => whnf); refine csp (fun h => ?_) (fun h => ?_))
 ·conv => whnf
  simp_all [ownS]
 ((conv => whnf); refine csp (fun h => ?_) (fun h => ?_))
 ·conv => whnf
  simp_all [ownS]
 ((conv => whnf); refine csp (fun h => ?_) (fun h => ?_))
 ·conv => whnf
  simp_all [ownS]
 conv => whnf
 simp_all [ownS]
def goodV (v : GV) : Bool :=
 if v.k = 0 then decide (v.n = 0 ∧ v.s = e0) else if v.k = 1 then goodN v.n && decide (v.s = e0) else if v.k = 2 then decide (v.n = 0 ∧ v.s.size ≤ 255)
 else if v.k = 3 then decide ((v.n = 0 ∨ v.n = 1) ∧ v.s = e0) else if v.k = 4 then decide (1 ≤ v.n ∧ v.n ≤ 8 ∧ v.s = e0) else false
theorem own0 {v : GV} (h : v.k = 0) : Ret Tryz.prog F_value_own [eV v] (.iface 113 (.agg [])) := by have := value_own v; simpa [ownS, h] using this
theorem own1 {v : GV} (h : v.k = 1) : Ret Tryz.prog F_value_own [eV v] (.iface 114 (.int .i64 v.n)) := by have := value_own v; simpa [ownS, h] using this
theorem own2 {v : GV} (h : v.k = 2) : Ret Tryz.prog F_value_own [eV v] (.iface 116 (.str v.s)) := by have := value_own v; simpa [ownS, h] using this
theorem own3 {v : GV} (h : v.k = 3) : Ret Tryz.prog F_value_own [eV v] (.iface 115 (.bool (!decide (v.n = 0)))) := by have := value_own v; simpa [ownS, h] using this
theorem own4 {v : GV} (h : v.k = 4) : Ret Tryz.prog F_value_own [eV v] (.iface 118 (.int .i64 v.n)) := by have := value_own v; simpa [ownS, h] using this
theorem own5 {v : GV} (h : ¬ v.k = 0) (h1 : ¬ v.k = 1) (h2 : ¬ v.k = 2) (h3 : ¬ v.k = 3) (h4 : ¬ v.k = 4) : Ret Tryz.prog F_value_own [eV v] .nilI := by have := value_own v; simpa [ownS, h, h1, h2, h3, h4] using this
theorem value_Good (v : GV) : Ret Tryz.prog F_value_Good [eV v] (.bool (goodV v)) := by
 obtain ⟨k, n, s⟩ := v
 by_cases h0 : k = 0
 ·subst h0
  refine r_value_Good rfl fun _ => ?_
  repeat' ((conv => whnf); (first | refine csp (fun h => ?_) (fun h => ?_) | refine cllo (own0 rfl) (fun _ => ?_) | refine cllo (num_Good _) (fun _ => ?_) | (refine sda ?_ ?_; (focus (first | rfl | (simp; done)))) | refine sda ?_ ?_ | refine conk rfl ?_ | refine ldk rfl ?_ | refine mapk (fun x hx => ?_) | exact ⟨rfl, rfl⟩ | refine nilk (fun h => ?_) ?_ | intro hl))
  all_goals conv => whnf
  all_goals simp_all [goodV]
 by_cases h1 : k = 1
 ·subst h1
  refine r_value_Good rfl fun _ => ?_
  repeat' ((conv => whnf); (first | refine csp (fun h => ?_) (fun h => ?_) | refine cllo (own1 rfl) (fun _ => ?_) | refine cllo (num_Good _) (fun _ => ?_) | (refine sda ?_ ?_; (focus (first | rfl | (simp; done)))) | refine sda ?_ ?_ | refine conk rfl ?_ | refine ldk rfl ?_ | refine mapk (fun x hx => ?_) | exact ⟨rfl, rfl⟩ | refine nilk (fun h => ?_) ?_ | intro hl))
  all_goals conv => whnf
  all_goals simp_all [goodV]
 by_cases h2 : k = 2
 ·subst h2
  refine r_value_Good rfl fun _ => ?_
  repeat' ((conv => whnf); (first | refine csp (fun h => ?_) (fun h => ?_) | refine cllo (own2 rfl) (fun _ => ?_) | refine cllo (num_Good _) (fun _ => ?_) | (refine sda ?_ ?_; (focus (first | rfl | (simp; done)))) | refine sda ?_ ?_ | refine conk rfl ?_ | refine ldk rfl ?_ | refine mapk (fun x hx => ?_) | exact ⟨rfl, rfl⟩ | refine nilk (fun h => ?_) ?_ | intro hl))
  all_goals conv => whnf
  all_goals simp_all [goodV]
  all_goals omega
 by_cases h3 : k = 3
 ·subst h3
  refine r_value_Good rfl fun _ => ?_
  repeat' ((conv => whnf); (first | refine csp (fun h => ?_) (fun h => ?_) | refine cllo (own3 rfl) (fun _ => ?_) | refine cllo (num_Good _) (fun _ => ?_) | (refine sda ?_ ?_; (focus (first | rfl | (simp; done)))) | refine sda ?_ ?_ | refine conk rfl ?_ | refine ldk rfl ?_ | refine mapk (fun x hx => ?_) | exact ⟨rfl, rfl⟩ | refine nilk (fun h => ?_) ?_ | intro hl))
  all_goals conv => whnf
  all_goals simp_all [goodV]
 by_cases h4 : k = 4
 ·subst h4
  refine r_value_Good rfl fun _ => ?_
  repeat' ((conv => whnf); (first | refine csp (fun h => ?_) (fun h => ?_) | refine cllo (own4 rfl) (fun _ => ?_) | refine cllo (num_Good _) (fun _ => ?_) | (refine sda ?_ ?_; (focus (first | rfl | (simp; done)))) | refine sda ?_ ?_ | refine conk rfl ?_ | refine ldk rfl ?_ | refine mapk (fun x hx => ?_) | exact ⟨rfl, rfl⟩ | refine nilk (fun h => ?_) ?_ | intro hl))
  all_goals conv => whnf
  all_goals simp_all [goodV]
  all_goals omega
 ·refine r_value_Good rfl fun _ => ?_
  repeat' ((conv => whnf); (first | refine csp (fun h => ?_) (fun h => ?_) | refine cllo (own5 h0 h1 h2 h3 h4) (fun _ => ?_) | (refine sda ?_ ?_; (focus (first | rfl | (simp; done)))) | refine sda ?_ ?_ | refine conk rfl ?_ | refine ldk rfl ?_ | refine mapk (fun x hx => ?_) | exact ⟨rfl, rfl⟩ | refine nilk (fun h => ?_) ?_ | intro hl))
  all_goals conv => whnf
  all_goals simp_all [goodV]
def toNumS (v : GV) : Int × Int := if v.k = 0 then (0, 0) else if v.k = 1 then (v.n, 0) else if v.k = 3 then (if v.n = 0 then 0 else 10000, 0) else if v.k = 4 then (0, v.n) else (0, 2)
theorem value_ToNum (v : GV) (h2 : ¬ v.k = 2) : Ret Tryz.prog F_value_ToNum [eV v] (.tup [.int .i64 (toNumS v).1, .int .i64 (toNumS v).2]) := by
 obtain ⟨k, n, s⟩ := v
 by_cases h0 : k = 0
 ·subst h0
  refine r_value_ToNum rfl fun _ => ?_
  repeat' ((conv => whnf); (first | refine csp (fun h => ?_) (fun h => ?_) | refine cllo (own0 rfl) (fun _ => ?_) | (refine sda ?_ ?_; (focus (first | rfl | (simp; done)))) | refine sda ?_ ?_ | refine conk rfl ?_ | refine ldk rfl ?_ | refine mapk (fun x hx => ?_) | exact ⟨rfl, rfl⟩ | refine nilk (fun h => ?_) ?_ | intro hl))
  all_goals conv => whnf
  all_goals simp_all [toNumS]
 by_cases h1 : k = 1
 ·subst h1
  refine r_value_ToNum rfl fun _ => ?_
  repeat' ((conv => whnf); (first | refine csp (fun h => ?_) (fun h => ?_) | refine cllo (own1 rfl) (fun _ => ?_) | (refine sda ?_ ?_; (focus (first | rfl | (simp; done)))) | refine sda ?_ ?_ | refine conk rfl ?_ | refine ldk rfl ?_ | refine mapk (fun x hx => ?_) | exact ⟨rfl, rfl⟩ | refine nilk (fun h => ?_) ?_ | intro hl))
  all_goals conv => whnf
  all_goals simp_all [toNumS]
 by_cases h3 : k = 3
 ·subst h3
  refine r_value_ToNum rfl fun _ => ?_
  repeat' ((conv => whnf); (first | refine csp (fun h => ?_) (fun h => ?_) | refine cllo (own3 rfl) (fun _ => ?_) | (refine sda ?_ ?_; (focus (first | rfl | (simp; done)))) | refine sda ?_ ?_ | refine conk rfl ?_ | refine ldk rfl ?_ | refine mapk (fun x hx => ?_) | exact ⟨rfl, rfl⟩ | refine nilk (fun h => ?_) ?_ | intro hl))
  all_goals conv => whnf
  all_goals simp_all [toNumS]
 by_cases h4 : k = 4
 ·subst h4
  refine r_value_ToNum rfl fun _ => ?_
  repeat' ((conv => whnf); (first | refine csp (fun h => ?_) (fun h => ?_) | refine cllo (own4 rfl) (fun _ => ?_) | (refine sda ?_ ?_; (focus (first | rfl | (simp; done)))) | refine sda ?_ ?_ | refine conk rfl ?_ | refine ldk rfl ?_ | refine mapk (fun x hx => ?_) | exact ⟨rfl, rfl⟩ | refine nilk (fun h => ?_) ?_ | intro hl))
  all_goals conv => whnf
  all_goals simp_all [toNumS]
 ·refine r_value_ToNum rfl fun _ => ?_
  repeat' ((conv => whnf); (first | refine csp (fun h => ?_) (fun h => ?_) | refine cllo (own5 h0 h1 h2 h3 h4) (fun _ => ?_) | (refine sda ?_ ?_; (focus (first | rfl | (simp; done)))) | refine sda ?_ ?_ | refine conk rfl ?_ | refine ldk rfl ?_ | refine mapk (fun x hx => ?_) | exact ⟨rfl, rfl⟩ | refine nilk (fun h => ?_) ?_ | intro hl))
  all_goals conv => whnf
  all_goals simp_all [toNumS]
def goodA (a : Ar) : Bool := decide (1 ≤ a.rows ∧ 1 ≤ a.cols ∧ a.rows ≤ 4096 ∧ a.cols ≤ 4096 ∧ (a.l.length : Int) = a.rows * a.cols) && a.l.all goodV
theorem take_good {l : List GV} {i : Nat} {x : GV} {p : GV → Bool} (hx : l[i]? = some x) (h : (l.take i).all p = true) (hp : p x = true) : (l.take (i + 1)).all p = true := by
 rw [List.take_add_one, hx]
 simp only [Option.toList, List.all_append, h, List.all_cons, hp, List.all_nil, Bool.and_self]
theorem w64 {n : Int} (h : -9223372036854775808 ≤ n ∧ n ≤ 9223372036854775807) : IntKind.i64.wrap n = n := (wrap_iff .i64 n).2 (by simp only [kLo, kHi]; omega)
theorem mulb {r c : Int} (h1 : 1 ≤ r) (h2 : r ≤ 4096) (h3 : 1 ≤ c) (h4 : c ≤ 4096) : 1 ≤ r * c ∧ r * c ≤ 16777216 :=
 ⟨by have := Int.mul_le_mul h1 h3 (by omega) (by omega); omega, by have := Int.mul_le_mul h2 h4 (by omega) (by omega); omega⟩
theorem goodA_no {a : Ar} {i : Nat} {x : GV} (hx : a.l[i]? = some x) (h : goodV x = false) : goodA a = false := by
 unfold goodA
 rw [Bool.and_eq_false_iff]
 right
 rw [List.all_eq_false]
 exact ⟨x, List.mem_of_getElem? hx, by simp [h]⟩
theorem goodA_bad {a : Ar} (h : ¬ (1 ≤ a.rows ∧ 1 ≤ a.cols ∧ a.rows ≤ 4096 ∧ a.cols ≤ 4096 ∧ (a.l.length : Int) = a.rows * a.cols)) : goodA a = false := by
 unfold goodA
 rw [decide_eq_false h, Bool.false_and]
theorem goodA_yes {a : Ar} (h : 1 ≤ a.rows ∧ 1 ≤ a.cols ∧ a.rows ≤ 4096 ∧ a.cols ≤ 4096 ∧ (a.l.length : Int) = a.rows * a.cols) (hl : a.l.all goodV = true) : goodA a = true := by
 unfold goodA
 rw [decide_eq_true h, hl, Bool.true_and]
theorem maths_Good (a : Ar) : Ret Tryz.prog F_maths_Good [eA a] (.bool (goodA a)) := by
 refine r_maths_Good rfl fun hw => ?_
 clear hw
 repeat' ((conv => whnf); (first | refine csp (fun h => ?_) (fun h => ?_) | (refine sda ?_ ?_; (focus (first | rfl | (simp; done)))) | refine sda ?_ ?_ | refine conk rfl ?_ | refine ldk rfl ?_ | refine mapk (fun x hx => ?_) | exact ⟨rfl, rfl⟩ | refine nilk (fun h => ?_) ?_ | intro hl))
 rotate_right
 ·try simp only [tz] at *
  have hm := mulb (r := a.rows) (c := a.cols) (by omega) (by omega) (by omega) (by omega)
  have hL : (a.l.length : Int) = a.rows * a.cols := by
   have := w64 (n := a.rows * a.cols) (by omega)
   omega
  refine .inl ⟨Int, [35, 36, 37], [], fun i => [(35, .row false (a.l.map cV)), (36, .int .i64 a.l.length), (37, .int .i64 i)], fun _ => [], fun i => 0 ≤ i ∧ i ≤ a.l.length ∧ (a.l.take i.toNat).all goodV = true, fun i => (a.l.length - i).toNat, rfl, ?_, fun i hi => ?_⟩
  ·exact ⟨0, rfl, rfl, by simp⟩
  ·obtain ⟨hi0, hi1, hi2⟩ := hi
   repeat' ((conv => whnf); (first | refine csp (fun h => ?_) (fun h => ?_) | refine cllo (value_Good _) (fun _ => ?_) | (refine sda ?_ ?_; (focus (first | rfl | (simp; done)))) | refine sda ?_ ?_ | refine conk rfl ?_ | refine ldk rfl ?_ | refine mapk (fun x hx => ?_) | exact ⟨rfl, rfl⟩ | refine nilk (fun h => ?_) ?_ | intro hl))
   ·try simp only [tz] at *
    omega
   ·conv => whnf
    rw [goodA_no hx (by simpa using h)]
   ·conv => whnf
    try simp only [tz] at *
    have hw1 := w64 (n := i + 1) (by omega)
    refine ⟨i + 1, by rw [hw1], by trivial, ⟨by omega, by omega, ?_⟩, by omega⟩
    rw [show (i + 1).toNat = i.toNat + 1 by omega]
    exact take_good hx hi2 h
   ·conv => whnf
    try simp only [tz] at *
    rw [goodA_yes (by omega)]
    have : a.l.take i.toNat = a.l := List.take_of_length_le (by omega)
    rwa [this] at hi2
 all_goals conv => whnf
 all_goals try simp only [tz] at *
 ·rw [goodA_bad (by omega)]
 ·rw [goodA_bad (by omega)]
 ·rw [goodA_bad (by omega)]
 ·rw [goodA_bad (by omega)]
 ·have hm := mulb (r := a.rows) (c := a.cols) (by omega) (by omega) (by omega) (by omega)
  rw [w64 (by omega)] at h
  rw [goodA_bad (by omega)]
end Go.Proofs.YtcbknemdidehlaaGreatDoor
set_option maxRecDepth 100000
set_option linter.all false
namespace Go.Proofs.YtcbknemdidehlaaGreatDoor
open Ab R
def oneS (a : Ar) : GV := if a.l.length = 1 ∧ goodA a = true then a.l.headD ⟨0, 0, e0⟩ else badS 2
theorem maths_One (a : Ar) : Ret Tryz.prog F_maths_One [eA a] (eV (oneS a)) := by
 refine r_maths_One rfl fun hw => ?_
 clear hw
 repeat' ((conv => whnf); (first | refine csp (fun h => ?_) (fun h => ?_) | refine cllo (maths_Good _) (fun _ => ?_) | refine cllo (value_Bad _) (fun _ => ?_) | (refine sda ?_ ?_; (focus (first | rfl | (simp; done)))) | refine sda ?_ ?_ | refine conk rfl ?_ | refine ldk rfl ?_ | refine mapk (fun x hx => ?_) | exact ⟨rfl, rfl⟩ | refine nilk (fun h => ?_) ?_ | intro hl))
 all_goals conv => whnf
 all_goals try simp only [tz] at *
 ·rw [oneS, if_neg (fun q => by omega)]
 ·rw [oneS, if_neg (by rw [h]; simp)]
 ·omega
 ·obtain ⟨r, c, l, m⟩ := a
  cases l with
  | nil => cases hx
  | cons y l =>
   cases hx
   rw [oneS, if_pos ⟨by omega, h⟩]
   rfl
def wholeS (n : Int) : Int × Bool := if goodN n = true ∧ n.tmod 10000 = 0 then (n.tdiv 10000, true) else (0, false)
theorem tdivb {n : Int} (h : goodN n = true) : -10000000 ≤ n.tdiv 10000 ∧ n.tdiv 10000 ≤ 10000000 := by
 simp only [goodN, decide_eq_true_eq] at h
 rw [Int.tdiv_eq_ediv]
 split
 ·omega
 ·simp only [show Int.sign 10000 = 1 from rfl]
  omega
theorem num_Whole (n : Int) : Ret Tryz.prog F_num_Whole [.int .i64 n] (.tup [.int .i64 (wholeS n).1, .bool (wholeS n).2]) := by
 refine r_num_Whole rfl fun hw => ?_
 clear hw
 repeat' ((conv => whnf); (first | refine csp (fun h => ?_) (fun h => ?_) | refine cllo (num_Good _) (fun _ => ?_) | (refine sda ?_ ?_; (focus (first | rfl | (simp; done)))) | refine sda ?_ ?_ | refine conk rfl ?_ | refine ldk rfl ?_ | refine mapk (fun x hx => ?_) | exact ⟨rfl, rfl⟩ | refine nilk (fun h => ?_) ?_ | intro hl))
 all_goals conv => whnf
 all_goals try simp only [tz] at *
 ·rw [wholeS, if_neg (by simp [h])]
 ·rw [wholeS, if_neg (fun q => h q.2)]
 ·have h1 : goodN n = true := by assumption
  have := tdivb h1
  rw [wholeS, if_pos ⟨h1, h⟩, w64 (by omega)]
theorem goodA_out {a : Ar} (h : goodA a = true) : (1 ≤ a.rows ∧ 1 ≤ a.cols ∧ a.rows ≤ 4096 ∧ a.cols ≤ 4096 ∧ (a.l.length : Int) = a.rows * a.cols) ∧ a.l.all goodV = true := by
 unfold goodA at h
 simp only [Bool.and_eq_true, decide_eq_true_eq] at h
 exact h
end Go.Proofs.YtcbknemdidehlaaGreatDoor
set_option maxRecDepth 100000
set_option linter.all false
namespace Go.Proofs.YtcbknemdidehlaaGreatDoor
open Ab R
theorem goodV_size {v : GV} (h : goodV v = true) : v.s.size ≤ 255 := by
 unfold goodV at h
 split at h
 ·simp only [decide_eq_true_eq] at h; rw [h.2]; decide
 ·split at h
  ·simp only [Bool.and_eq_true, decide_eq_true_eq] at h; rw [h.2]; decide
  ·split at h
   ·simp only [decide_eq_true_eq] at h; exact h.2
   ·split at h
    ·simp only [decide_eq_true_eq] at h; rw [h.2]; decide
    ·split at h
     ·simp only [decide_eq_true_eq] at h; rw [h.2.2]; decide
     ·cases h
theorem goodV_bad (n : Int) : goodV (badS n) = true := by
 unfold goodV badS
 simp
 split <;> omega
theorem oneS_good (a : Ar) : goodV (oneS a) = true := by
 unfold oneS
 split
 ·rename_i h
  obtain ⟨h1, h2⟩ := h
  have h3 := (goodA_out h2).2
  match hl : a.l, h1 with
  | [x], _ => rw [hl] at h3; simpa using h3
 ·exact goodV_bad 2
theorem prs_bd (s : ByteArray) : -100000000000 ≤ (Nm.prs s).1 ∧ (Nm.prs s).1 ≤ 100000000000 := by
 have out_b : ∀ n : Int, -100000000000 ≤ (Nm.out n).1 ∧ (Nm.out n).1 ≤ 100000000000 := fun n => by
  unfold Nm.out
  split
  ·rename_i h; exact h
  ·simp
 have fin_b : ∀ b W R p, -100000000000 ≤ (Nm.fin b W R p).1 ∧ (Nm.fin b W R p).1 ≤ 100000000000 := fun b W R p => by
  unfold Nm.fin
  split
  ·exact out_b _
  ·simp
 unfold Nm.prs
 split
 ·exact fin_b _ _ _ _
 ·exact fin_b _ _ _ _
theorem prs_good (s : ByteArray) : -100000000000 ≤ (Vl.tnum 2 0 s).1 ∧ (Vl.tnum 2 0 s).1 ≤ 100000000000 := by
 have out_b : ∀ n : Int, -100000000000 ≤ (Nm.out n).1 ∧ (Nm.out n).1 ≤ 100000000000 := fun n => by
  unfold Nm.out
  split
  ·rename_i h; exact h
  ·simp
 have fin_b : ∀ b W R p, -100000000000 ≤ (Nm.fin b W R p).1 ∧ (Nm.fin b W R p).1 ≤ 100000000000 := fun b W R p => by
  unfold Nm.fin
  split
  ·exact out_b _
  ·simp
 have : -100000000000 ≤ (Nm.prs s).1 ∧ (Nm.prs s).1 ≤ 100000000000 := by
  unfold Nm.prs
  split
  ·exact fin_b _ _ _ _
  ·exact fin_b _ _ _ _
 show -100000000000 ≤ (if (Nm.prs s).2 = true then ((Nm.prs s).1, 0) else (0, 2) : Int × Int).1 ∧ (if (Nm.prs s).2 = true then ((Nm.prs s).1, 0) else (0, 2) : Int × Int).1 ≤ 100000000000
 split
 ·exact this
 ·simp
abbrev tn (v : GV) : Int × Int := Vl.tnum v.k v.n v.s
theorem tn_good {v : GV} (h : goodV v = true) : goodN (tn v).1 = true ∧ 0 ≤ (tn v).2 ∧ (tn v).2 ≤ 8 ∧ ((tn v).2 ≠ 0 → (tn v).1 = 0) := by
 obtain ⟨k, n, s⟩ := v
 have hp := prs_good s
 unfold goodV at h
 simp only [tn, Vl.tnum] at *
 by_cases h0 : k = 0
 ·subst h0
  simp [goodN]
 by_cases h1 : k = 1
 ·subst h1
  simp at h ⊢
  exact h.1
 by_cases h3 : k = 3
 ·subst h3
  simp only [if_neg h0, if_neg h1]
  simp
  split <;> simp [goodN]
 by_cases h2 : k = 2
 ·subst h2
  simp only [if_neg h0, if_neg h1, if_neg h3] at *
  simp at hp ⊢
  split
  ·rename_i hh
   rw [if_pos hh] at hp
   simpa [goodN] using hp
  ·simp [goodN]
 by_cases h4 : k = 4
 ·subst h4
  simp at h ⊢
  simp [goodN]
  omega
 simp [h0, h1, h2, h3, h4] at h
theorem ToNum_g (v : GV) (h : goodV v = true) : Ret Tryz.prog F_value_ToNum [eV v] (.tup [.int .i64 (tn v).1, .int .i64 (tn v).2]) := by
 by_cases h2 : v.k = 2
 ·have hs := goodV_size h
  have hb := prs_bd v.s
  have hp : Ret Tryz.prog F_num_Parse [.str v.s] (.tup [.int .i64 (Nm.prs v.s).1, .bool (Nm.prs v.s).2]) := c_num_Parse v.s _ _ (Nm.Parse_is (by omega)) (w64 (by omega))
  have ho := own2 h2
  have e : tn v = if (Nm.prs v.s).2 = true then ((Nm.prs v.s).1, 0) else (0, 2) := by simp [tn, Vl.tnum, h2]
  rw [e]
  refine r_value_ToNum rfl fun hw => ?_
  clear hw
  repeat' ((conv => whnf); (first | refine csp (fun h => ?_) (fun h => ?_) | refine cllo (ho) (fun _ => ?_) | refine cllo (hp) (fun _ => ?_) | (refine sda ?_ ?_; (focus (first | rfl | (simp; done)))) | refine sda ?_ ?_ | refine conk rfl ?_ | refine ldk rfl ?_ | refine mapk (fun x hx => ?_) | exact ⟨rfl, rfl⟩ | refine nilk (fun h => ?_) ?_ | intro hl))
  all_goals conv => whnf
  all_goals simp_all
 ·have e : tn v = toNumS v := by
   simp [tn, Vl.tnum, toNumS, h2]
   by_cases c : v.n = 0 <;> simp [c]
  rw [e]
  exact value_ToNum v h2
abbrev tb (v : GV) : Bool × Int := Vl.tboo v.k v.n v.s
theorem tb_good {v : GV} (h : goodV v = true) : 0 ≤ (tb v).2 ∧ (tb v).2 ≤ 8 := by
 obtain ⟨k, n, s⟩ := v
 unfold goodV at h
 simp only [tb, Vl.tboo] at *
 by_cases h0 : k = 0
 ·subst h0; simp
 by_cases h1 : k = 1
 ·subst h1; simp
 by_cases h2 : k = 2
 ·subst h2; simp; split <;> simp
 by_cases h3 : k = 3
 ·subst h3; simp
 by_cases h4 : k = 4
 ·subst h4; simp at h ⊢; omega
 simp [h0, h1, h2, h3, h4] at h
theorem k_of {v : GV} (h : goodV v = true) : v.k = 0 ∨ v.k = 1 ∨ v.k = 2 ∨ v.k = 3 ∨ v.k = 4 := by
 by_cases h0 : v.k = 0
 ·exact .inl h0
 by_cases h1 : v.k = 1
 ·exact .inr (.inl h1)
 by_cases h2 : v.k = 2
 ·exact .inr (.inr (.inl h2))
 by_cases h3 : v.k = 3
 ·exact .inr (.inr (.inr (.inl h3)))
 by_cases h4 : v.k = 4
 ·exact .inr (.inr (.inr (.inr h4)))
 ·simp [goodV, h0, h1, h2, h3, h4] at h
theorem ToBool_g (v : GV) (h : goodV v = true) : Ret Tryz.prog F_value_ToBool [eV v] (.tup [.bool (tb v).1, .int .i64 (tb v).2]) := by
 have hs := goodV_size h
 have hp : Ret Tryz.prog F_value_word [.str v.s] (.tup [.bool (decide (Vl.wrd v.s = 1)), .bool (decide (Vl.wrd v.s ≥ 0))]) := c_value_word v.s _ _ (Vl.word_is (by omega))
 rcases k_of h with q | q | q | q | q
 ·have ho := own0 q
  refine r_value_ToBool rfl fun hw => ?_
  clear hw
  repeat' ((conv => whnf); (first | refine csp (fun h => ?_) (fun h => ?_) | refine cllo (ho) (fun _ => ?_) | refine cllo (hp) (fun _ => ?_) | (refine sda ?_ ?_; (focus (first | rfl | (simp; done)))) | refine sda ?_ ?_ | refine conk rfl ?_ | refine ldk rfl ?_ | refine mapk (fun x hx => ?_) | exact ⟨rfl, rfl⟩ | refine nilk (fun h => ?_) ?_ | intro hl))
  all_goals conv => whnf
  all_goals simp_all [tb, Vl.tboo]
 ·have ho := own1 q
  refine r_value_ToBool rfl fun hw => ?_
  clear hw
  repeat' ((conv => whnf); (first | refine csp (fun h => ?_) (fun h => ?_) | refine cllo (ho) (fun _ => ?_) | refine cllo (hp) (fun _ => ?_) | (refine sda ?_ ?_; (focus (first | rfl | (simp; done)))) | refine sda ?_ ?_ | refine conk rfl ?_ | refine ldk rfl ?_ | refine mapk (fun x hx => ?_) | exact ⟨rfl, rfl⟩ | refine nilk (fun h => ?_) ?_ | intro hl))
  all_goals conv => whnf
  all_goals simp_all [tb, Vl.tboo]
  by_cases c : v.n = 0 <;> simp [c]
 ·have ho := own2 q
  refine r_value_ToBool rfl fun hw => ?_
  clear hw
  repeat' ((conv => whnf); (first | refine csp (fun h => ?_) (fun h => ?_) | refine cllo (ho) (fun _ => ?_) | refine cllo (hp) (fun _ => ?_) | (refine sda ?_ ?_; (focus (first | rfl | (simp; done)))) | refine sda ?_ ?_ | refine conk rfl ?_ | refine ldk rfl ?_ | refine mapk (fun x hx => ?_) | exact ⟨rfl, rfl⟩ | refine nilk (fun h => ?_) ?_ | intro hl))
  all_goals conv => whnf
  all_goals simp_all [tb, Vl.tboo]
  rw [if_neg (by omega)]
  simp
 ·have ho := own3 q
  refine r_value_ToBool rfl fun hw => ?_
  clear hw
  repeat' ((conv => whnf); (first | refine csp (fun h => ?_) (fun h => ?_) | refine cllo (ho) (fun _ => ?_) | refine cllo (hp) (fun _ => ?_) | (refine sda ?_ ?_; (focus (first | rfl | (simp; done)))) | refine sda ?_ ?_ | refine conk rfl ?_ | refine ldk rfl ?_ | refine mapk (fun x hx => ?_) | exact ⟨rfl, rfl⟩ | refine nilk (fun h => ?_) ?_ | intro hl))
  all_goals conv => whnf
  all_goals simp_all [tb, Vl.tboo]
  by_cases c : v.n = 0 <;> simp [c]
 ·have ho := own4 q
  refine r_value_ToBool rfl fun hw => ?_
  clear hw
  repeat' ((conv => whnf); (first | refine csp (fun h => ?_) (fun h => ?_) | refine cllo (ho) (fun _ => ?_) | refine cllo (hp) (fun _ => ?_) | (refine sda ?_ ?_; (focus (first | rfl | (simp; done)))) | refine sda ?_ ?_ | refine conk rfl ?_ | refine ldk rfl ?_ | refine mapk (fun x hx => ?_) | exact ⟨rfl, rfl⟩ | refine nilk (fun h => ?_) ?_ | intro hl))
  all_goals conv => whnf
  all_goals simp_all [tb, Vl.tboo]
noncomputable abbrev tx (v : GV) : ByteArray × Int := Vl.ttxt v.k v.n v.s
theorem tx_good {v : GV} (h : goodV v = true) : (tx v).1.size ≤ 255 ∧ 0 ≤ (tx v).2 ∧ (tx v).2 ≤ 8 := by
 have hs := goodV_size h
 obtain ⟨k, n, s⟩ := v
 unfold goodV at h
 simp only [tx, Vl.ttxt, Vl.txt] at *
 by_cases h0 : k = 0
 ·subst h0; simp; decide
 by_cases h1 : k = 1
 ·subst h1
  simp at h ⊢
  have hg := h.1
  simp only [goodN, decide_eq_true_eq] at hg
  have := Vl.prt_sz (n := n) (by omega) (by omega)
  omega
 by_cases h2 : k = 2
 ·subst h2; simp; exact hs
 by_cases h3 : k = 3
 ·subst h3; simp; split <;> decide
 by_cases h4 : k = 4
 ·subst h4; simp at h ⊢; exact ⟨by decide, by omega, by omega⟩
 simp [h0, h1, h2, h3, h4] at h
theorem goodV_n {v : GV} (h : goodV v = true) : -100000000000 ≤ v.n ∧ v.n ≤ 100000000000 := by
 unfold goodV at h
 split at h
 ·simp only [decide_eq_true_eq] at h; omega
 ·split at h
  ·simp only [Bool.and_eq_true, goodN, decide_eq_true_eq] at h; exact h.1
  ·split at h
   ·simp only [decide_eq_true_eq] at h; omega
   ·split at h
    ·simp only [decide_eq_true_eq] at h; omega
    ·split at h
     ·simp only [decide_eq_true_eq] at h; omega
     ·cases h
theorem Text_g (v : GV) (h : goodV v = true) (hk : ¬ v.k = 4) : Ret Tryz.prog F_value_Text [eV v] (.str (Vl.txt v.k v.n v.s)) := by
 have hn := goodV_n h
 have hp : Ret Tryz.prog F_num_Print [.int .i64 v.n] (.str (Vl.prt v.n)) := c_num_Print v.n _ (Vl.Prt_is (by omega) (by omega)).1 (by have := Vl.prt_sz (n := v.n) (by omega) (by omega); omega)
 rcases k_of h with q | q | q | q | q
 ·have ho := own0 q
  refine r_value_Text rfl fun hw => ?_
  clear hw
  repeat' ((conv => whnf); (first | refine csp (fun h => ?_) (fun h => ?_) | refine cllo (ho) (fun _ => ?_) | refine cllo (hp) (fun _ => ?_) | (refine sda ?_ ?_; (focus (first | rfl | (simp; done)))) | refine sda ?_ ?_ | refine conk rfl ?_ | refine ldk rfl ?_ | refine mapk (fun x hx => ?_) | exact ⟨rfl, rfl⟩ | refine nilk (fun h => ?_) ?_ | intro hl))
  all_goals conv => whnf
  all_goals simp_all [tx, Vl.ttxt, Vl.txt]
 ·have ho := own1 q
  refine r_value_Text rfl fun hw => ?_
  clear hw
  repeat' ((conv => whnf); (first | refine csp (fun h => ?_) (fun h => ?_) | refine cllo (ho) (fun _ => ?_) | refine cllo (hp) (fun _ => ?_) | (refine sda ?_ ?_; (focus (first | rfl | (simp; done)))) | refine sda ?_ ?_ | refine conk rfl ?_ | refine ldk rfl ?_ | refine mapk (fun x hx => ?_) | exact ⟨rfl, rfl⟩ | refine nilk (fun h => ?_) ?_ | intro hl))
  all_goals conv => whnf
  all_goals simp_all [tx, Vl.ttxt, Vl.txt]
 ·have ho := own2 q
  refine r_value_Text rfl fun hw => ?_
  clear hw
  repeat' ((conv => whnf); (first | refine csp (fun h => ?_) (fun h => ?_) | refine cllo (ho) (fun _ => ?_) | refine cllo (hp) (fun _ => ?_) | (refine sda ?_ ?_; (focus (first | rfl | (simp; done)))) | refine sda ?_ ?_ | refine conk rfl ?_ | refine ldk rfl ?_ | refine mapk (fun x hx => ?_) | exact ⟨rfl, rfl⟩ | refine nilk (fun h => ?_) ?_ | intro hl))
  all_goals conv => whnf
  all_goals simp_all [tx, Vl.ttxt, Vl.txt]
 ·have ho := own3 q
  refine r_value_Text rfl fun hw => ?_
  clear hw
  repeat' ((conv => whnf); (first | refine csp (fun h => ?_) (fun h => ?_) | refine cllo (ho) (fun _ => ?_) | refine cllo (hp) (fun _ => ?_) | (refine sda ?_ ?_; (focus (first | rfl | (simp; done)))) | refine sda ?_ ?_ | refine conk rfl ?_ | refine ldk rfl ?_ | refine mapk (fun x hx => ?_) | exact ⟨rfl, rfl⟩ | refine nilk (fun h => ?_) ?_ | intro hl))
  all_goals conv => whnf
  all_goals simp_all [tx, Vl.ttxt, Vl.txt]
 ·exact absurd q hk
theorem ToText_g (v : GV) (h : goodV v = true) : Ret Tryz.prog F_value_ToText [eV v] (.tup [.str (tx v).1, .int .i64 (tx v).2]) := by
 by_cases hk : v.k = 4
 ·have ho := own4 hk
  refine r_value_ToText rfl fun hw => ?_
  clear hw
  repeat' ((conv => whnf); (first | refine csp (fun h => ?_) (fun h => ?_) | refine cllo (ho) (fun _ => ?_) | (refine sda ?_ ?_; (focus (first | rfl | (simp; done)))) | refine sda ?_ ?_ | refine conk rfl ?_ | refine ldk rfl ?_ | refine mapk (fun x hx => ?_) | exact ⟨rfl, rfl⟩ | refine nilk (fun h => ?_) ?_ | intro hl))
  all_goals conv => whnf
  all_goals simp_all [tx, Vl.ttxt]
 have hp := Text_g v h hk
 have e : tx v = (Vl.txt v.k v.n v.s, 0) := by simp [tx, Vl.ttxt, hk]
 rw [e]
 rcases k_of h with q | q | q | q | q
 ·have ho := own0 q
  refine r_value_ToText rfl fun hw => ?_
  clear hw
  repeat' ((conv => whnf); (first | refine csp (fun h => ?_) (fun h => ?_) | refine cllo (ho) (fun _ => ?_) | refine cllo (hp) (fun _ => ?_) | (refine sda ?_ ?_; (focus (first | rfl | (simp; done)))) | refine sda ?_ ?_ | refine conk rfl ?_ | refine ldk rfl ?_ | refine mapk (fun x hx => ?_) | exact ⟨rfl, rfl⟩ | refine nilk (fun h => ?_) ?_ | intro hl))
  all_goals conv => whnf
  all_goals rfl
 ·have ho := own1 q
  refine r_value_ToText rfl fun hw => ?_
  clear hw
  repeat' ((conv => whnf); (first | refine csp (fun h => ?_) (fun h => ?_) | refine cllo (ho) (fun _ => ?_) | refine cllo (hp) (fun _ => ?_) | (refine sda ?_ ?_; (focus (first | rfl | (simp; done)))) | refine sda ?_ ?_ | refine conk rfl ?_ | refine ldk rfl ?_ | refine mapk (fun x hx => ?_) | exact ⟨rfl, rfl⟩ | refine nilk (fun h => ?_) ?_ | intro hl))
  all_goals conv => whnf
  all_goals rfl
 ·have ho := own2 q
  refine r_value_ToText rfl fun hw => ?_
  clear hw
  repeat' ((conv => whnf); (first | refine csp (fun h => ?_) (fun h => ?_) | refine cllo (ho) (fun _ => ?_) | refine cllo (hp) (fun _ => ?_) | (refine sda ?_ ?_; (focus (first | rfl | (simp; done)))) | refine sda ?_ ?_ | refine conk rfl ?_ | refine ldk rfl ?_ | refine mapk (fun x hx => ?_) | exact ⟨rfl, rfl⟩ | refine nilk (fun h => ?_) ?_ | intro hl))
  all_goals conv => whnf
  all_goals rfl
 ·have ho := own3 q
  refine r_value_ToText rfl fun hw => ?_
  clear hw
  repeat' ((conv => whnf); (first | refine csp (fun h => ?_) (fun h => ?_) | refine cllo (ho) (fun _ => ?_) | refine cllo (hp) (fun _ => ?_) | (refine sda ?_ ?_; (focus (first | rfl | (simp; done)))) | refine sda ?_ ?_ | refine conk rfl ?_ | refine ldk rfl ?_ | refine mapk (fun x hx => ?_) | exact ⟨rfl, rfl⟩ | refine nilk (fun h => ?_) ?_ | intro hl))
  all_goals conv => whnf
  all_goals rfl
 ·exact absurd q hk
end Go.Proofs.YtcbknemdidehlaaGreatDoor
set_option maxRecDepth 100000
set_option linter.all false
namespace Go.Proofs.YtcbknemdidehlaaGreatDoor
open Ab R
theorem ref05_Good (n : Int) : Ret Tryz.prog F_octavoref05_Good [.int .i64 n] (.bool (goodN n)) := by
 refine r_octavoref05_Good rfl fun _ => ?_
 repeat' ((conv => whnf); (first | refine csp (fun h => ?_) (fun h => ?_) | (refine sda ?_ ?_; (focus (first | rfl | (simp; done)))) | refine sda ?_ ?_ | refine conk rfl ?_ | refine ldk rfl ?_ | refine mapk (fun x hx => ?_) | exact ⟨rfl, rfl⟩ | refine nilk (fun h => ?_) ?_ | intro hl))
 all_goals conv => whnf
 all_goals simp_all [goodN]
 all_goals omega
theorem ref06_Good (v : GV) : Ret Tryz.prog F_octavoref06_Good [eV v] (.bool (goodV v)) := by
 refine r_octavoref06_Good rfl fun hw => ?_
 clear hw
 repeat' ((conv => whnf); (first | refine csp (fun h => ?_) (fun h => ?_) | refine cllo (ref05_Good _) (fun _ => ?_) | (refine sda ?_ ?_; (focus (first | rfl | (simp; done)))) | refine sda ?_ ?_ | refine conk rfl ?_ | refine ldk rfl ?_ | refine mapk (fun x hx => ?_) | exact ⟨rfl, rfl⟩ | refine nilk (fun h => ?_) ?_ | intro hl))
 all_goals conv => whnf
 all_goals simp_all [goodV]
 all_goals omega
def lightV (n : Int) (v : GV) : Int := IntKind.i64.wrap (n + IntKind.i64.wrap ((v.s.size : Int).tdiv 50))
def lightA (n : Int) (a : Ar) : Int := a.l.foldl lightV (IntKind.i64.wrap (n + a.l.length))
def lightS (l : List Ar) : Bool := decide (l.foldl lightA l.length < 400)
theorem fold_take {α β : Type} {f : β → α → β} {b : β} {l : List α} {i : Nat} {x : α} (hx : l[i]? = some x) : (l.take (i + 1)).foldl f b = f ((l.take i).foldl f b) x := by
 rw [List.take_add_one, hx]
 simp [List.foldl_append]
theorem law_light18 (l : List Ar) : Ret Tryz.prog F_octavolaw18_light [.row false (l.map cA)] (.bool (lightS l)) := by
 refine r_octavolaw18_light rfl fun hw => ?_
 clear hw
 repeat' ((conv => whnf); (first | refine csp (fun h => ?_) (fun h => ?_) | (refine sda ?_ ?_; (focus (first | rfl | (simp; done)))) | refine sda ?_ ?_ | refine conk rfl ?_ | refine ldk rfl ?_ | refine mapk (fun x hx => ?_) | exact ⟨rfl, rfl⟩ | refine nilk (fun h => ?_) ?_ | intro hl))
 try simp only [tz] at *
 refine .inl ⟨Nat, [3, 10, 11, 12], [], fun i => [(3, .int .i64 ((l.take i).foldl lightA l.length)), (10, .row false (l.map cA)), (11, .int .i64 l.length), (12, .int .i64 i)], fun _ => [], fun i => i ≤ l.length, fun i => l.length - i, rfl, ?_, fun i hi => ?_⟩
 ·exact ⟨0, rfl, by trivial, Nat.zero_le _⟩
 ·repeat' ((conv => whnf); (first | refine csp (fun h => ?_) (fun h => ?_) | (refine sda ?_ ?_; (focus (first | rfl | (simp; done)))) | refine sda ?_ ?_ | refine conk rfl ?_ | refine ldk rfl ?_ | refine mapk (fun x hx => ?_) | exact ⟨rfl, rfl⟩ | refine nilk (fun h => ?_) ?_ | intro hl))
  ·try simp only [tz] at *
   omega
  ·rename Ar => y
   rename l[_]? = some y => hy
   have hy' : l[i]? = some y := hy
   have hly : y.l.length ≤ 9223372036854775807 := by simpa using hl
   have hlt := (List.getElem?_eq_some_iff.1 hy').1
   try simp only [tz] at *
   refine .inl ⟨Nat, [3, 10, 11, 12, 22, 23, 24], [], fun k => [(3, .int .i64 ((y.l.take k).foldl lightV (IntKind.i64.wrap ((l.take i).foldl lightA l.length + y.l.length)))), (10, .row false (l.map cA)), (11, .int .i64 l.length), (12, .int .i64 i), (22, .row false (y.l.map cV)), (23, .int .i64 y.l.length), (24, .int .i64 k)], fun _ => [], fun k => k ≤ y.l.length, fun k => y.l.length - k, rfl, ?_, fun k hk => ?_⟩
   ·exact ⟨0, rfl, by trivial, Nat.zero_le _⟩
   ·repeat' ((conv => whnf); (first | refine csp (fun h => ?_) (fun h => ?_) | (refine sda ?_ ?_; (focus (first | rfl | (simp; done)))) | refine sda ?_ ?_ | refine conk rfl ?_ | refine ldk rfl ?_ | refine mapk (fun x hx => ?_) | exact ⟨rfl, rfl⟩ | refine nilk (fun h => ?_) ?_ | intro hl))
    all_goals conv => whnf
    all_goals try simp only [tz] at *
    ·omega
    ·have hx' : y.l[k]? = some x := hx
     refine ⟨k + 1, ?_, by trivial, by omega, by omega⟩
     rw [fold_take hx', w64 (n := (k : Int) + 1) (by omega)]
     rfl
    ·refine ⟨i + 1, ?_, by trivial, by omega, by omega⟩
     have hk2 : y.l.take k = y.l := List.take_of_length_le (by omega)
     rw [fold_take hy', w64 (n := (i : Int) + 1) (by omega), hk2]
     rfl
  ·conv => whnf
   try simp only [tz] at *
   have : l.take i = l := List.take_of_length_le (by omega)
   rw [this]
   rfl
end Go.Proofs.YtcbknemdidehlaaGreatDoor
set_option maxRecDepth 100000
set_option linter.all false
namespace Go.Proofs.YtcbknemdidehlaaGreatDoor
open Ab R P Go.RowKit Go.Proofs.YtcbknemdidehlaaGreatDoorW.PrintWords Go.Proofs.YtcbknemdidehlaaGreatDoorW.PrintLast
abbrev cS (c : ByteArray) : List V := [.str c]
theorem Ab.Ret.callsW {P : Program} {f : FuncId} {args : List V} {r : V} {x : Value} (hcall : ∀ ar w, (callFunc f ar).run P w = .ok (.enter f ar) w) (hr : Fits r x)
  (h : ∀ (m : Mem) (w : World) (vs : List Value), Gk m → m.ok w → RepL m [] args vs → Calls P f vs.toArray w fun e w' => e = .returned x ∧ Below w.heap.size w w') : Ret P f args r := by
 intro m w ys hG hm rv
 unfold CallsX
 rw [hcall]
 refine (h m w ys hG hm rv).mono fun e w' ⟨he, hb⟩ => ⟨x, he, m, fun _ _ _ q => q, fun b o v hv => ?_, hr m, hb, fun b o y hy hn => by rw [hy] at hn; cases hn⟩
 rw [World.cell?_of_block (w := w) (a := ⟨b, o, none⟩) (hb.block b (hm.lt hv))]
 exact hm b o v hv
theorem Ab.Ret.callsS {P : Program} {f : FuncId} {args : List V} {vs : List Value} {xs : List ByteArray} {T : Nat} (hcall : ∀ ar w, (callFunc f ar).run P w = .ok (.enter f ar) w) (ha : Sames args vs) (hz : ∀ c ∈ xs, c.size ≤ 9223372036854775807)
  (h : ∀ w, Calls P f vs.toArray w fun e w' => ∃ v0 : Value, e = .returned v0 ∧ Kd.R Kd.string T w' w.heap.size (fun _ => True) v0 xs ∧ Below w.heap.size w w') : Ret P f args (.row false (xs.map cS)) := by
 intro m w ys hG hm rv
 rw [sames_repL ha rv]
 unfold CallsX
 rw [hcall]
 refine (h w).mono fun e w' ⟨v0, he, hR, hb⟩ => ?_
 have hok : ∀ b o v, m b o = some v → w'.cell? ⟨b, o, none⟩ = some v := fun b o v hv => by
  rw [World.cell?_of_block (w := w) (a := ⟨b, o, none⟩) (hb.block b (hm.lt hv))]
  exact hm b o v hv
 obtain ⟨_, inner, ⟨hlen, ho⟩, hr⟩ := hR
 rcases ho with ⟨rfl, h0⟩ | ⟨g, cap, cur, rfl, hg, hh, hn, hcm, hsz, htake⟩
 ·have hx : xs = [] := List.eq_nil_of_length_eq_zero h0
  subst hx
  exact ⟨_, he, m, fun _ _ _ q => q, hok, Rep.row [] false [] none 0 1 0 0 (fun _ _ => .string ⟨#[]⟩) (fun q => by cases q) (Nat.le_refl _) (by simp) (fun e q => by cases q) (fun q => absurd rfl q) (fun i j e c q => by simp at q) (fun i j e c q => by simp at q), hb, fun b o y hy hn => by rw [hy] at hn; cases hn⟩
 ·have hcell : ∀ j p, xs[j]? = some p → w'.cell? ⟨g, j, none⟩ = some (.string p) := fun j p hj => by
   have hlt : j < xs.length := (List.getElem?_eq_some_iff.1 hj).1
   have h3 : (inner.drop (j * 1)).take 1 = [Value.string p] := hr.2 j p hj
   rw [Nat.mul_one] at h3
   have h2 : inner[j]? = some (.string p) := by
    have : ((inner.drop j).take 1)[0]? = some (Value.string p) := by rw [h3]; rfl
    simpa using this
   rw [Lib.cell_of_heap hh]
   rw [← htake, List.getElem?_take, if_pos (by show j < xs.length * 1; omega)] at h2
   simpa using h2
  have hz9 : xs.length ≤ 9223372036854775807 := by unfold maxLen at hcm; omega
  have hlm : (xs.map cS).length = xs.length := List.length_map _
  have el : ∀ {i j : Nat} {e : List V} {c : V}, (xs.map cS)[i]? = some e → e[j]? = some c → ∃ p, xs[i]? = some p ∧ j = 0 ∧ c = .str p := by
   intro i j e c he hc
   rw [List.getElem?_map] at he
   cases hx : xs[i]? with
   | none => rw [hx] at he; cases he
   | some p =>
    rw [hx] at he
    cases he
    cases j with
    | zero => cases hc; exact ⟨p, rfl, rfl, rfl⟩
    | succ j => cases hc
  refine ⟨_, he, fun b o => if b = g then (xs[o]?).map Value.string else m b o, fun b o v hv => ?_, fun b o v hv => ?_, ?_, hb, fun b o y hy hn => ?_⟩
  ·have : b ≠ g := fun q => by subst q; have := hm.lt hv; omega
   simp only [if_neg this]
   exact hv
  ·dsimp only at hv
   split at hv
   ·rename_i q
    subst q
    cases hx : xs[o]? with
    | none => rw [hx] at hv; cases hv
    | some p => rw [hx] at hv; cases hv; exact hcell o p hx
   ·exact hok b o v hv
  ·have := Rep.row (m := fun b o => if b = g then (xs[o]?).map Value.string else m b o) [] false (xs.map cS) (some ⟨g, 0, none⟩) cap 1 g 0 (fun i _ => ((xs[i]?).map Value.string).getD (.string ⟨#[]⟩)) (fun q => by cases q) (by rw [hlm]; exact hn) (by rw [hlm]; exact hz9)
    (fun e he => by obtain ⟨p, _, rfl⟩ := List.mem_map.1 he; rfl) (fun _ => rfl) (fun i j e c he hc => by
     obtain ⟨p, hp, rfl, rfl⟩ := el he hc
     simp [hp]) (fun i j e c he hc => by
     obtain ⟨p, hp, rfl, rfl⟩ := el he hc
     simp only [hp, Option.map_some, Option.getD_some]
     exact .str [] p (hz p (List.mem_of_getElem? hp)))
   rw [hlm] at this
   exact this
  ·dsimp only at hy
   split at hy
   ·rename_i q
    subst q
    exact hg
   ·rw [hy] at hn
    cases hn
theorem strs_rep {m : Mem} {w : World} (hm : m.ok w) {x : Bool} {l : List ByteArray} {v : Value} (h : Rep m [] (.row x (l.map cS)) v) :
  ∃ A cap, v = .slice A l.length cap ∧ l.length ≤ cap ∧ (l ≠ [] → ∃ b o, A = some ⟨b, o, none⟩ ∧ b < w.heap.size ∧ ∀ j p, l[j]? = some p → w.cell? ⟨b, o + j, none⟩ = some (.string p)) := by
 cases h with
 | row ι x els a cap sz b o g hx hc hlen hs ha hcell hr =>
  rw [List.length_map] at hc
  refine ⟨a, cap, by rw [List.length_map], hc, fun hne => ?_⟩
  have hne' : l.map cS ≠ [] := fun q => hne (List.map_eq_nil_iff.1 q)
  have hsz : sz = 1 := by
   cases l with
   | nil => exact absurd rfl hne
   | cons e l => exact (hs _ List.mem_cons_self).symm
  have cell : ∀ j p, l[j]? = some p → m b (o + j) = some (.string p) := fun j p hj => by
   have he : (l.map cS)[j]? = some [.str p] := by rw [List.getElem?_map, hj]; rfl
   have h1 := hcell j 0 _ _ he rfl
   have h2 := (hr j 0 _ _ he rfl).str_inv.1
   rw [h2, hsz] at h1
   simpa using h1
  refine ⟨b, o, ha hne', ?_, fun j p hj => hm _ _ _ (cell j p hj)⟩
  cases l with
  | nil => exact absurd rfl hne
  | cons e l => exact hm.lt (cell 0 e rfl)
noncomputable def joinB (l : List ByteArray) (sep : ByteArray) : ByteArray := ⟨(Lib.join (l.map (·.data.toList)) sep.data.toList).toArray⟩
theorem Join_c (l : List ByteArray) (sep : ByteArray) (hN : l.length ≤ 140737488355328) (hlen : (Lib.join (l.map (·.data.toList)) sep.data.toList).length ≤ 140737488355328) : Ret Tryz.prog F_strings_Join [.row false (l.map cS), .str sep] (.str (joinB l sep)) := by
 refine Ab.Ret.callsW Tryz.call112 (fits_str (s := joinB l sep) (by show (Lib.join (l.map (·.data.toList)) sep.data.toList).toArray.size ≤ _; simp only [List.size_toArray]; omega)) (fun m w vs hG hm hv => ?_)
 obtain ⟨v, u, rfl⟩ : ∃ v u, vs = [v, u] := by
  have := hv.1
  match vs, this with
  | [v, u], _ => exact ⟨v, u, rfl⟩
 obtain ⟨A, cap, rfl, hc, hC⟩ := strs_rep hm (hv.2 0 _ _ rfl rfl)
 have hu : u = .string sep := (hv.2 1 _ _ rfl rfl).str_inv.1
 subst hu
 by_cases hl : l = []
 ·subst hl
  refine (Tryz.strings_Join_none A cap sep w).mono fun e w' ⟨he, hw⟩ => ⟨he, ?_⟩
  rw [hw]
  exact Below.refl _ _
 ·obtain ⟨b, o, rfl, hb, hcells⟩ := hC hl
  exact Tryz.strings_Join b o cap l sep w hcells hb hN hc hlen
theorem Chars_c (s : ByteArray) (h : s.size ≤ 8796093022207) : Ret Tryz.prog F_value_Chars [.str s] (.row false ((Vl.chars s).map cS)) := by
 obtain ⟨k, hk⟩ := (Vl.Chars_is h).rounds
 have hz : ∀ c ∈ Vl.chars s, c.size ≤ 9223372036854775807 := by
  have : ∀ m pos, ∀ c ∈ Vl.chs s m pos, c.size ≤ s.size := by
   intro m
   induction m with
   | zero => intro pos c hc; cases hc
   | succ m ih =>
    intro pos c hc
    unfold Vl.chs at hc
    split at hc
    ·rcases List.mem_cons.1 hc with rfl | hc
     ·rw [ByteArray.size_extract]; omega
     ·exact ih _ c hc
    ·cases hc
  intro c hc
  have := this _ _ c hc
  omega
 exact Ab.Ret.callsS Tryz.call47 (vs := [.string s]) ⟨same_str s, True.intro⟩ hz (fun w => value_Chars.calls k s _ w hk)
end Go.Proofs.YtcbknemdidehlaaGreatDoor
set_option maxRecDepth 100000
set_option linter.all false
namespace Go.Proofs.YtcbknemdidehlaaGreatDoor
open Ab R
theorem l18_one (v : GV) : Ret Tryz.prog F_octavolaw18_one [eV v] (eA ⟨1, 1, [v], false⟩) := by
 refine r_octavolaw18_one rfl fun hw => ?_
 clear hw
 repeat' ((conv => whnf); (first | refine csp (fun h => ?_) (fun h => ?_) | (refine sda ?_ ?_; (focus (first | rfl | (simp; done)))) | refine sda ?_ ?_ | refine conk rfl ?_ | refine ldk rfl ?_ | refine mapk (fun x hx => ?_) | exact ⟨rfl, rfl⟩ | refine nilk (fun h => ?_) ?_ | intro hl))
 all_goals conv => whnf
 all_goals rfl
theorem l18_number (n : Int) : Ret Tryz.prog F_octavolaw18_number [.int .i64 n] (eA ⟨1, 1, [⟨1, n, e0⟩], false⟩) := by
 refine r_octavolaw18_number rfl fun hw => ?_
 clear hw
 repeat' ((conv => whnf); (first | refine csp (fun h => ?_) (fun h => ?_) | refine cllo (l18_one ⟨1, n, e0⟩) (fun _ => ?_) | (refine sda ?_ ?_; (focus (first | rfl | (simp; done)))) | refine sda ?_ ?_ | refine conk rfl ?_ | refine ldk rfl ?_ | refine mapk (fun x hx => ?_) | exact ⟨rfl, rfl⟩ | refine nilk (fun h => ?_) ?_ | intro hl))
 all_goals conv => whnf
theorem l18_text (s : ByteArray) : Ret Tryz.prog F_octavolaw18_text [.str s] (eA ⟨1, 1, [⟨2, 0, s⟩], false⟩) := by
 refine r_octavolaw18_text rfl fun hw => ?_
 clear hw
 repeat' ((conv => whnf); (first | refine csp (fun h => ?_) (fun h => ?_) | refine cllo (l18_one ⟨2, 0, s⟩) (fun _ => ?_) | (refine sda ?_ ?_; (focus (first | rfl | (simp; done)))) | refine sda ?_ ?_ | refine conk rfl ?_ | refine ldk rfl ?_ | refine mapk (fun x hx => ?_) | exact ⟨rfl, rfl⟩ | refine nilk (fun h => ?_) ?_ | intro hl))
 all_goals conv => whnf
abbrev oA (v : GV) : Ar := ⟨1, 1, [v], false⟩
theorem one_oA {v : GV} (h : goodV v = true) : oneS (oA v) = v := by
 have : goodA (oA v) = true := goodA_yes ⟨by simp [oA], by simp [oA], by simp [oA], by simp [oA], rfl⟩ (by simp [oA, h])
 rw [oneS, if_pos ⟨rfl, this⟩]
 rfl
theorem ToText_s (s : ByteArray) : Ret Tryz.prog F_value_ToText [eV ⟨2, 0, s⟩] (.tup [.str s, .int .i64 0]) := by
 have ht : Ret Tryz.prog F_value_Text [eV ⟨2, 0, s⟩] (.str s) := by
  refine r_value_Text rfl fun hw => ?_
  clear hw
  repeat' ((conv => whnf); (first | refine csp (fun h => ?_) (fun h => ?_) | refine cllo (own2 (v := ⟨2, 0, s⟩) rfl) (fun _ => ?_) | (refine sda ?_ ?_; (focus (first | rfl | (simp; done)))) | refine sda ?_ ?_ | refine conk rfl ?_ | refine ldk rfl ?_ | refine mapk (fun x hx => ?_) | exact ⟨rfl, rfl⟩ | refine nilk (fun h => ?_) ?_ | intro hl))
  all_goals conv => whnf
  all_goals rfl
 refine r_value_ToText rfl fun hw => ?_
 clear hw
 repeat' ((conv => whnf); (first | refine csp (fun h => ?_) (fun h => ?_) | refine cllo (own2 (v := ⟨2, 0, s⟩) rfl) (fun _ => ?_) | refine cllo (ht) (fun _ => ?_) | (refine sda ?_ ?_; (focus (first | rfl | (simp; done)))) | refine sda ?_ ?_ | refine conk rfl ?_ | refine ldk rfl ?_ | refine mapk (fun x hx => ?_) | exact ⟨rfl, rfl⟩ | refine nilk (fun h => ?_) ?_ | intro hl))
 all_goals conv => whnf
 all_goals rfl
theorem ToNum_n (n : Int) : Ret Tryz.prog F_value_ToNum [eV ⟨1, n, e0⟩] (.tup [.int .i64 n, .int .i64 0]) := value_ToNum ⟨1, n, e0⟩ (by simp)
theorem Whole_n (k : Int) (h : -10000000 ≤ k ∧ k ≤ 10000000) : Ret Tryz.prog F_num_Whole [.int .i64 (k * 10000)] (.tup [.int .i64 k, .bool true]) := by
 have := num_Whole (k * 10000)
 have e : wholeS (k * 10000) = (k, true) := by
  rw [wholeS, if_pos ⟨by simp only [goodN, decide_eq_true_eq]; omega, by rw [Int.mul_tmod_left]⟩, Int.mul_tdiv_cancel _ (by decide)]
 rwa [e] at this
theorem good_s {s : ByteArray} (h : s.size ≤ 255) : goodV ⟨2, 0, s⟩ = true := by simp [goodV, h]
theorem good_n {n : Int} (h : -100000000000 ≤ n ∧ n ≤ 100000000000) : goodV ⟨1, n, e0⟩ = true := by simp [goodV, goodN, h]
def strS (s : ByteArray) : GV := if s.size > 255 then badS 2 else ⟨2, 0, s⟩
theorem value_Str (s : ByteArray) : Ret Tryz.prog F_value_Str [.str s] (eV (strS s)) := by
 refine r_value_Str rfl fun hw => ?_
 clear hw
 repeat' ((conv => whnf); (first | refine csp (fun h => ?_) (fun h => ?_) | refine cllo (value_Bad _) (fun _ => ?_) | (refine sda ?_ ?_; (focus (first | rfl | (simp; done)))) | refine sda ?_ ?_ | refine conk rfl ?_ | refine ldk rfl ?_ | refine mapk (fun x hx => ?_) | exact ⟨rfl, rfl⟩ | refine nilk (fun h => ?_) ?_ | intro hl))
 all_goals conv => whnf
 all_goals try simp only [tz] at *
 ·rw [strS, if_pos (by omega)]
 ·rw [strS, if_neg (by omega)]
theorem next_1 (a : Ar) (ls : List Ar) : RetL Tryz.prog F_texts_asked_next [.ptr 0 0] [.box true [.row false (cA a :: ls.map cA), .int .i64 0]] (.tup [eV (oneS a), .bool true]) [.box true [.row false (ls.map cA), .int .i64 0]] := by
 refine rl_texts_asked_next rfl fun hw _ => ?_
 clear hw
 repeat' ((conv => whnf); (first | refine Bth.mk ?_ ?_ | refine pickk0 ?_ | refine csp (fun h => ?_) (fun h => ?_) | refine cllo (maths_One a) (fun _ => ?_) | (refine sda ?_ ?_; (focus (first | rfl | exact of_decide_eq_true rfl | (simp; done)))) | refine sda ?_ ?_ | refine conk rfl ?_ | refine ldk rfl ?_ | refine mapk (fun x hx => ?_) | exact ⟨rfl, rfl⟩ | refine nilk (fun h => absurd h (of_decide_eq_false rfl)) ?_ | refine nilk (fun h => absurd h (List.cons_ne_nil _ _)) ?_ | refine nilk (fun h => ?_) ?_ | exact rfl | exact True.intro | refine leftk1 rfl ?_ | refine bytk8 rfl ?_ | refine bytk rfl ?_ | exact leftk0 rfl | refine eqk rfl ?_ | refine fLm rfl ?_ | refine fLk (by assumption) ?_ | refine fVk ?_ | refine fLVk ?_ | refine fWk ?_ | intro hl))
 all_goals conv => whnf
 ·simp
  omega
 ·rcases List.mem_cons.1 hl with rfl | he
  ·rfl
  ·obtain ⟨x, _, rfl⟩ := List.mem_map.1 he
   rfl
 ·simp
  exact List.take_of_length_le (by simp)
theorem text_c (s : ByteArray) (h : s.size ≤ 255) (ls : List Ar) : RetL Tryz.prog F_texts_asked_text [.ptr 0 0] [.box true [.row false (cA (oA ⟨2, 0, s⟩) :: ls.map cA), .int .i64 0]] (.str s) [.box true [.row false (ls.map cA), .int .i64 0]] := by
 have hn := next_1 (oA ⟨2, 0, s⟩) ls
 rw [one_oA (good_s h)] at hn
 refine rl_texts_asked_text rfl fun hw _ => ?_
 clear hw
 repeat' ((conv => whnf); (first | refine Bth.mk ?_ ?_ | refine pickk0 ?_ | refine csp (fun h => ?_) (fun h => ?_) | refine clll (RetL.frame (hn) _ [0] rfl (by simp) rfl rfl) (fun _ _ => ?_) | refine cllo (ToText_s s) (fun _ => ?_) | (refine sda ?_ ?_; (focus (first | rfl | exact of_decide_eq_true rfl | (simp; done)))) | refine sda ?_ ?_ | refine conk rfl ?_ | refine ldk rfl ?_ | refine mapk (fun x hx => ?_) | exact ⟨rfl, rfl⟩ | refine nilk (fun h => absurd h (of_decide_eq_false rfl)) ?_ | refine nilk (fun h => absurd h (List.cons_ne_nil _ _)) ?_ | refine nilk (fun h => ?_) ?_ | exact rfl | exact True.intro | refine leftk1 rfl ?_ | refine bytk8 rfl ?_ | refine bytk rfl ?_ | exact leftk0 rfl | refine eqk rfl ?_ | refine fLm rfl ?_ | refine fLk (by assumption) ?_ | refine fVk ?_ | refine fLVk ?_ | refine fWk ?_ | intro hl))
 all_goals conv => whnf
 all_goals exact ⟨rfl, rfl⟩
theorem number_c (n : Int) (h : -100000000000 ≤ n ∧ n ≤ 100000000000) (ls : List Ar) : RetL Tryz.prog F_texts_asked_number [.ptr 0 0] [.box true [.row false (cA (oA ⟨1, n, e0⟩) :: ls.map cA), .int .i64 0]] (.int .i64 n) [.box true [.row false (ls.map cA), .int .i64 0]] := by
 have hn := next_1 (oA ⟨1, n, e0⟩) ls
 rw [one_oA (good_n h)] at hn
 refine rl_texts_asked_number rfl fun hw _ => ?_
 clear hw
 repeat' ((conv => whnf); (first | refine Bth.mk ?_ ?_ | refine pickk0 ?_ | refine csp (fun h => ?_) (fun h => ?_) | refine clll (RetL.frame (hn) _ [0] rfl (by simp) rfl rfl) (fun _ _ => ?_) | refine cllo (ToNum_n n) (fun _ => ?_) | (refine sda ?_ ?_; (focus (first | rfl | exact of_decide_eq_true rfl | (simp; done)))) | refine sda ?_ ?_ | refine conk rfl ?_ | refine ldk rfl ?_ | refine mapk (fun x hx => ?_) | exact ⟨rfl, rfl⟩ | refine nilk (fun h => absurd h (of_decide_eq_false rfl)) ?_ | refine nilk (fun h => absurd h (List.cons_ne_nil _ _)) ?_ | refine nilk (fun h => ?_) ?_ | exact rfl | exact True.intro | refine leftk1 rfl ?_ | refine bytk8 rfl ?_ | refine bytk rfl ?_ | exact leftk0 rfl | refine eqk rfl ?_ | refine fLm rfl ?_ | refine fLk (by assumption) ?_ | refine fVk ?_ | refine fLVk ?_ | refine fWk ?_ | intro hl))
 all_goals conv => whnf
 all_goals exact ⟨rfl, rfl⟩
theorem whole_c (k d : Int) (h : -10000000 ≤ k ∧ k ≤ 10000000) (ls : List Ar) : RetL Tryz.prog F_texts_asked_whole [.ptr 0 0, .int .i64 d] [.box true [.row false (cA (oA ⟨1, k * 10000, e0⟩) :: ls.map cA), .int .i64 0]] (.int .i64 k) [.box true [.row false (ls.map cA), .int .i64 0]] := by
 have hn := number_c (k * 10000) (by omega) ls
 refine rl_texts_asked_whole rfl fun hw _ => ?_
 clear hw
 repeat' ((conv => whnf); (first | refine Bth.mk ?_ ?_ | refine pickk0 ?_ | refine csp (fun h => ?_) (fun h => ?_) | refine clll (RetL.frame (hn) _ [0] rfl (by simp) rfl rfl) (fun _ _ => ?_) | refine cllo (Whole_n k h) (fun _ => ?_) | (refine sda ?_ ?_; (focus (first | rfl | exact of_decide_eq_true rfl | (simp; done)))) | refine sda ?_ ?_ | refine conk rfl ?_ | refine ldk rfl ?_ | refine mapk (fun x hx => ?_) | exact ⟨rfl, rfl⟩ | refine nilk (fun h => absurd h (of_decide_eq_false rfl)) ?_ | refine nilk (fun h => absurd h (List.cons_ne_nil _ _)) ?_ | refine nilk (fun h => ?_) ?_ | exact rfl | exact True.intro | refine leftk1 rfl ?_ | refine bytk8 rfl ?_ | refine bytk rfl ?_ | exact leftk0 rfl | refine eqk rfl ?_ | refine fLm rfl ?_ | refine fLk (by assumption) ?_ | refine fVk ?_ | refine fLVk ?_ | refine fWk ?_ | intro hl))
 all_goals conv => whnf
 all_goals first | exact ⟨rfl, rfl⟩ | skip
 all_goals simp at *
theorem whole_0 (d : Int) : RetL Tryz.prog F_texts_asked_whole [.ptr 0 0, .int .i64 d] [.box true [.row false [], .int .i64 0]] (.int .i64 d) [.box true [.row false [], .int .i64 0]] := by
 refine rl_texts_asked_whole rfl fun hw _ => ?_
 clear hw
 repeat' ((conv => whnf); (first | refine Bth.mk ?_ ?_ | refine pickk0 ?_ | refine csp (fun h => ?_) (fun h => ?_) | (refine sda ?_ ?_; (focus (first | rfl | exact of_decide_eq_true rfl | (simp; done)))) | refine sda ?_ ?_ | refine conk rfl ?_ | refine ldk rfl ?_ | refine mapk (fun x hx => ?_) | exact ⟨rfl, rfl⟩ | refine nilk (fun h => absurd h (of_decide_eq_false rfl)) ?_ | refine nilk (fun h => absurd h (List.cons_ne_nil _ _)) ?_ | refine nilk (fun h => ?_) ?_ | exact rfl | exact True.intro | refine leftk1 rfl ?_ | refine bytk8 rfl ?_ | refine bytk rfl ?_ | exact leftk0 rfl | refine eqk rfl ?_ | refine fLm rfl ?_ | refine fLk (by assumption) ?_ | refine fVk ?_ | refine fLVk ?_ | refine fWk ?_ | intro hl))
 all_goals conv => whnf
 all_goals exact ⟨rfl, rfl⟩
theorem chars_len (s : ByteArray) : (Vl.chars s).length ≤ s.size := Vl.chs_len s s.size 0
end Go.Proofs.YtcbknemdidehlaaGreatDoor
set_option maxRecDepth 100000
set_option linter.all false
namespace Go.Proofs.YtcbknemdidehlaaGreatDoor
open Ab R
theorem fnd_LEN : Ret Tryz.prog F_texts_find [.str ⟨#[76, 69, 78]⟩] (.tup [.fn F_texts_texted_1 [] [.elem [.fn F_texts_find_1 [] []]], .int .i64 1, .int .i64 1]) := by
 refine r_texts_find rfl fun hw => ?_
 clear hw
 repeat' ((conv => whnf); (first | refine Bth.mk ?_ ?_ | refine pickk0 ?_ | refine csp (fun h => ?_) (fun h => ?_) | (apply clqi; apply rq_texts_ends rfl) | (apply clqi; apply rq_texts_texted rfl) | (apply clqi; apply rq_texts_made rfl) | (apply clqi; apply rq_texts_finds rfl) | (refine sda ?_ ?_; (focus (first | rfl | exact of_decide_eq_true rfl | (simp; done)))) | refine sda ?_ ?_ | refine conk rfl ?_ | refine ldk rfl ?_ | refine mapk (fun x hx => ?_) | exact ⟨rfl, rfl⟩ | refine nilk (fun h => absurd h (of_decide_eq_false rfl)) ?_ | refine nilk (fun h => absurd h (List.cons_ne_nil _ _)) ?_ | refine nilk (fun h => ?_) ?_ | exact rfl | exact True.intro | refine leftk1 rfl ?_ | refine bytk8 rfl ?_ | refine bytk rfl ?_ | exact leftk0 rfl | refine eqk rfl ?_ | refine fLm rfl ?_ | refine fLk (by assumption) ?_ | refine fVk ?_ | refine fLVk ?_ | refine fWk ?_ | intro hl))
 all_goals conv => whnf
 all_goals rfl
theorem fnd_UPPER : Ret Tryz.prog F_texts_find [.str ⟨#[85, 80, 80, 69, 82]⟩] (.tup [.fn F_texts_texted_1 [] [.elem [.fn F_texts_made_1 [] [.elem [.fn F_value_Upper [] []]]]], .int .i64 1, .int .i64 1]) := by
 refine r_texts_find rfl fun hw => ?_
 clear hw
 repeat' ((conv => whnf); (first | refine Bth.mk ?_ ?_ | refine pickk0 ?_ | refine csp (fun h => ?_) (fun h => ?_) | (apply clqi; apply rq_texts_ends rfl) | (apply clqi; apply rq_texts_texted rfl) | (apply clqi; apply rq_texts_made rfl) | (apply clqi; apply rq_texts_finds rfl) | (refine sda ?_ ?_; (focus (first | rfl | exact of_decide_eq_true rfl | (simp; done)))) | refine sda ?_ ?_ | refine conk rfl ?_ | refine ldk rfl ?_ | refine mapk (fun x hx => ?_) | exact ⟨rfl, rfl⟩ | refine nilk (fun h => absurd h (of_decide_eq_false rfl)) ?_ | refine nilk (fun h => absurd h (List.cons_ne_nil _ _)) ?_ | refine nilk (fun h => ?_) ?_ | exact rfl | exact True.intro | refine leftk1 rfl ?_ | refine bytk8 rfl ?_ | refine bytk rfl ?_ | exact leftk0 rfl | refine eqk rfl ?_ | refine fLm rfl ?_ | refine fLk (by assumption) ?_ | refine fVk ?_ | refine fLVk ?_ | refine fWk ?_ | intro hl))
 all_goals conv => whnf
 all_goals rfl
theorem fnd_LOWER : Ret Tryz.prog F_texts_find [.str ⟨#[76, 79, 87, 69, 82]⟩] (.tup [.fn F_texts_texted_1 [] [.elem [.fn F_texts_made_1 [] [.elem [.fn F_value_Lower [] []]]]], .int .i64 1, .int .i64 1]) := by
 refine r_texts_find rfl fun hw => ?_
 clear hw
 repeat' ((conv => whnf); (first | refine Bth.mk ?_ ?_ | refine pickk0 ?_ | refine csp (fun h => ?_) (fun h => ?_) | (apply clqi; apply rq_texts_ends rfl) | (apply clqi; apply rq_texts_texted rfl) | (apply clqi; apply rq_texts_made rfl) | (apply clqi; apply rq_texts_finds rfl) | (refine sda ?_ ?_; (focus (first | rfl | exact of_decide_eq_true rfl | (simp; done)))) | refine sda ?_ ?_ | refine conk rfl ?_ | refine ldk rfl ?_ | refine mapk (fun x hx => ?_) | exact ⟨rfl, rfl⟩ | refine nilk (fun h => absurd h (of_decide_eq_false rfl)) ?_ | refine nilk (fun h => absurd h (List.cons_ne_nil _ _)) ?_ | refine nilk (fun h => ?_) ?_ | exact rfl | exact True.intro | refine leftk1 rfl ?_ | refine bytk8 rfl ?_ | refine bytk rfl ?_ | exact leftk0 rfl | refine eqk rfl ?_ | refine fLm rfl ?_ | refine fLk (by assumption) ?_ | refine fVk ?_ | refine fLVk ?_ | refine fWk ?_ | intro hl))
 all_goals conv => whnf
 all_goals rfl
theorem fnd_PROPER : Ret Tryz.prog F_texts_find [.str ⟨#[80, 82, 79, 80, 69, 82]⟩] (.tup [.fn F_texts_texted_1 [] [.elem [.fn F_texts_made_1 [] [.elem [.fn F_texts_proper [] []]]]], .int .i64 1, .int .i64 1]) := by
 refine r_texts_find rfl fun hw => ?_
 clear hw
 repeat' ((conv => whnf); (first | refine Bth.mk ?_ ?_ | refine pickk0 ?_ | refine csp (fun h => ?_) (fun h => ?_) | (apply clqi; apply rq_texts_ends rfl) | (apply clqi; apply rq_texts_texted rfl) | (apply clqi; apply rq_texts_made rfl) | (apply clqi; apply rq_texts_finds rfl) | (refine sda ?_ ?_; (focus (first | rfl | exact of_decide_eq_true rfl | (simp; done)))) | refine sda ?_ ?_ | refine conk rfl ?_ | refine ldk rfl ?_ | refine mapk (fun x hx => ?_) | exact ⟨rfl, rfl⟩ | refine nilk (fun h => absurd h (of_decide_eq_false rfl)) ?_ | refine nilk (fun h => absurd h (List.cons_ne_nil _ _)) ?_ | refine nilk (fun h => ?_) ?_ | exact rfl | exact True.intro | refine leftk1 rfl ?_ | refine bytk8 rfl ?_ | refine bytk rfl ?_ | exact leftk0 rfl | refine eqk rfl ?_ | refine fLm rfl ?_ | refine fLk (by assumption) ?_ | refine fVk ?_ | refine fLVk ?_ | refine fWk ?_ | intro hl))
 all_goals conv => whnf
 all_goals rfl
theorem ask_PROPER (a : Ar) (r : GV) (z : V) (hz : z = .row false []) (hr : RetL Tryz.prog F_texts_texted_1 [.ptr 0 0, .elem [.fn F_texts_made_1 [] [.elem [.fn F_texts_proper [] []]]]] [.box true [.row false [cA a], .int .i64 0]] (eV r) [.box true [z, .int .i64 0]]) :
  Ret Tryz.prog F_octavolaw18_ask [.str ⟨#[80, 82, 79, 80, 69, 82]⟩, .row false [cA a]] (eV r) := by
 have hc : Ret Tryz.prog F_texts_Call [.str ⟨#[80, 82, 79, 80, 69, 82]⟩, .row false [cA a]] (.tup [eV r, .bool true]) := by
  subst hz
  refine r_texts_Call rfl fun hw => ?_
  clear hw
  repeat' ((conv => whnf); (first | refine Bth.mk ?_ ?_ | refine pickk0 ?_ | refine csp (fun h => ?_) (fun h => ?_) | refine cllo (fnd_PROPER) (fun _ => ?_) | refine clll (RetL.frame hr _ [1] rfl (by simp) rfl rfl) (fun _ _ => ?_) | (refine sda ?_ ?_; (focus (first | rfl | exact of_decide_eq_true rfl | (simp; done)))) | refine sda ?_ ?_ | refine conk rfl ?_ | refine ldk rfl ?_ | refine mapk (fun x hx => ?_) | exact ⟨rfl, rfl⟩ | refine nilk (fun h => absurd h (of_decide_eq_false rfl)) ?_ | refine nilk (fun h => absurd h (List.cons_ne_nil _ _)) ?_ | refine nilk (fun h => ?_) ?_ | exact rfl | exact True.intro | refine leftk1 rfl ?_ | refine bytk8 rfl ?_ | refine bytk rfl ?_ | exact leftk0 rfl | refine eqk rfl ?_ | refine fLm rfl ?_ | refine fLk (by assumption) ?_ | refine fVk ?_ | refine fLVk ?_ | refine fWk ?_ | intro hl))
  all_goals conv => whnf
 refine r_octavolaw18_ask rfl fun hw => ?_
 clear hw
 repeat' ((conv => whnf); (first | refine Bth.mk ?_ ?_ | refine pickk0 ?_ | refine csp (fun h => ?_) (fun h => ?_) | refine cllo (hc) (fun _ => ?_) | (refine sda ?_ ?_; (focus (first | rfl | exact of_decide_eq_true rfl | (simp; done)))) | refine sda ?_ ?_ | refine conk rfl ?_ | refine ldk rfl ?_ | refine mapk (fun x hx => ?_) | exact ⟨rfl, rfl⟩ | refine nilk (fun h => absurd h (of_decide_eq_false rfl)) ?_ | refine nilk (fun h => absurd h (List.cons_ne_nil _ _)) ?_ | refine nilk (fun h => ?_) ?_ | exact rfl | exact True.intro | refine leftk1 rfl ?_ | refine bytk8 rfl ?_ | refine bytk rfl ?_ | exact leftk0 rfl | refine eqk rfl ?_ | refine fLm rfl ?_ | refine fLk (by assumption) ?_ | refine fVk ?_ | refine fLVk ?_ | refine fWk ?_ | intro hl))
 all_goals conv => whnf
theorem fnd_REVERSE : Ret Tryz.prog F_texts_find [.str ⟨#[82, 69, 86, 69, 82, 83, 69]⟩] (.tup [.fn F_texts_texted_1 [] [.elem [.fn F_texts_made_1 [] [.elem [.fn F_texts_reverse [] []]]]], .int .i64 1, .int .i64 1]) := by
 refine r_texts_find rfl fun hw => ?_
 clear hw
 repeat' ((conv => whnf); (first | refine Bth.mk ?_ ?_ | refine pickk0 ?_ | refine csp (fun h => ?_) (fun h => ?_) | (apply clqi; apply rq_texts_ends rfl) | (apply clqi; apply rq_texts_texted rfl) | (apply clqi; apply rq_texts_made rfl) | (apply clqi; apply rq_texts_finds rfl) | (refine sda ?_ ?_; (focus (first | rfl | exact of_decide_eq_true rfl | (simp; done)))) | refine sda ?_ ?_ | refine conk rfl ?_ | refine ldk rfl ?_ | refine mapk (fun x hx => ?_) | exact ⟨rfl, rfl⟩ | refine nilk (fun h => absurd h (of_decide_eq_false rfl)) ?_ | refine nilk (fun h => absurd h (List.cons_ne_nil _ _)) ?_ | refine nilk (fun h => ?_) ?_ | exact rfl | exact True.intro | refine leftk1 rfl ?_ | refine bytk8 rfl ?_ | refine bytk rfl ?_ | exact leftk0 rfl | refine eqk rfl ?_ | refine fLm rfl ?_ | refine fLk (by assumption) ?_ | refine fVk ?_ | refine fLVk ?_ | refine fWk ?_ | intro hl))
 all_goals conv => whnf
 all_goals rfl
theorem fnd_LEFT : Ret Tryz.prog F_texts_find [.str ⟨#[76, 69, 70, 84]⟩] (.tup [.fn F_texts_ends_1 [] [.elem [.bool true]], .int .i64 1, .int .i64 2]) := by
 refine r_texts_find rfl fun hw => ?_
 clear hw
 repeat' ((conv => whnf); (first | refine Bth.mk ?_ ?_ | refine pickk0 ?_ | refine csp (fun h => ?_) (fun h => ?_) | (apply clqi; apply rq_texts_ends rfl) | (apply clqi; apply rq_texts_texted rfl) | (apply clqi; apply rq_texts_made rfl) | (apply clqi; apply rq_texts_finds rfl) | (refine sda ?_ ?_; (focus (first | rfl | exact of_decide_eq_true rfl | (simp; done)))) | refine sda ?_ ?_ | refine conk rfl ?_ | refine ldk rfl ?_ | refine mapk (fun x hx => ?_) | exact ⟨rfl, rfl⟩ | refine nilk (fun h => absurd h (of_decide_eq_false rfl)) ?_ | refine nilk (fun h => absurd h (List.cons_ne_nil _ _)) ?_ | refine nilk (fun h => ?_) ?_ | exact rfl | exact True.intro | refine leftk1 rfl ?_ | refine bytk8 rfl ?_ | refine bytk rfl ?_ | exact leftk0 rfl | refine eqk rfl ?_ | refine fLm rfl ?_ | refine fLk (by assumption) ?_ | refine fVk ?_ | refine fLVk ?_ | refine fWk ?_ | intro hl))
 all_goals conv => whnf
 all_goals rfl
theorem ask_LEFT (a b : Ar) (r : GV) (z : V) (hz : z = .row false []) (hr : RetL Tryz.prog F_texts_ends_1 [.ptr 0 0, .elem [.bool true]] [.box true [.row false [cA a, cA b], .int .i64 0]] (eV r) [.box true [z, .int .i64 0]]) :
  Ret Tryz.prog F_octavolaw18_ask [.str ⟨#[76, 69, 70, 84]⟩, .row false [cA a, cA b]] (eV r) := by
 have hc : Ret Tryz.prog F_texts_Call [.str ⟨#[76, 69, 70, 84]⟩, .row false [cA a, cA b]] (.tup [eV r, .bool true]) := by
  subst hz
  refine r_texts_Call rfl fun hw => ?_
  clear hw
  repeat' ((conv => whnf); (first | refine Bth.mk ?_ ?_ | refine pickk0 ?_ | refine csp (fun h => ?_) (fun h => ?_) | refine cllo (fnd_LEFT) (fun _ => ?_) | refine clll (RetL.frame hr _ [1] rfl (by simp) rfl rfl) (fun _ _ => ?_) | (refine sda ?_ ?_; (focus (first | rfl | exact of_decide_eq_true rfl | (simp; done)))) | refine sda ?_ ?_ | refine conk rfl ?_ | refine ldk rfl ?_ | refine mapk (fun x hx => ?_) | exact ⟨rfl, rfl⟩ | refine nilk (fun h => absurd h (of_decide_eq_false rfl)) ?_ | refine nilk (fun h => absurd h (List.cons_ne_nil _ _)) ?_ | refine nilk (fun h => ?_) ?_ | exact rfl | exact True.intro | refine leftk1 rfl ?_ | refine bytk8 rfl ?_ | refine bytk rfl ?_ | exact leftk0 rfl | refine eqk rfl ?_ | refine fLm rfl ?_ | refine fLk (by assumption) ?_ | refine fVk ?_ | refine fLVk ?_ | refine fWk ?_ | intro hl))
  all_goals conv => whnf
 refine r_octavolaw18_ask rfl fun hw => ?_
 clear hw
 repeat' ((conv => whnf); (first | refine Bth.mk ?_ ?_ | refine pickk0 ?_ | refine csp (fun h => ?_) (fun h => ?_) | refine cllo (hc) (fun _ => ?_) | (refine sda ?_ ?_; (focus (first | rfl | exact of_decide_eq_true rfl | (simp; done)))) | refine sda ?_ ?_ | refine conk rfl ?_ | refine ldk rfl ?_ | refine mapk (fun x hx => ?_) | exact ⟨rfl, rfl⟩ | refine nilk (fun h => absurd h (of_decide_eq_false rfl)) ?_ | refine nilk (fun h => absurd h (List.cons_ne_nil _ _)) ?_ | refine nilk (fun h => ?_) ?_ | exact rfl | exact True.intro | refine leftk1 rfl ?_ | refine bytk8 rfl ?_ | refine bytk rfl ?_ | exact leftk0 rfl | refine eqk rfl ?_ | refine fLm rfl ?_ | refine fLk (by assumption) ?_ | refine fVk ?_ | refine fLVk ?_ | refine fWk ?_ | intro hl))
 all_goals conv => whnf
theorem fnd_RIGHT : Ret Tryz.prog F_texts_find [.str ⟨#[82, 73, 71, 72, 84]⟩] (.tup [.fn F_texts_ends_1 [] [.elem [.bool false]], .int .i64 1, .int .i64 2]) := by
 refine r_texts_find rfl fun hw => ?_
 clear hw
 repeat' ((conv => whnf); (first | refine Bth.mk ?_ ?_ | refine pickk0 ?_ | refine csp (fun h => ?_) (fun h => ?_) | (apply clqi; apply rq_texts_ends rfl) | (apply clqi; apply rq_texts_texted rfl) | (apply clqi; apply rq_texts_made rfl) | (apply clqi; apply rq_texts_finds rfl) | (refine sda ?_ ?_; (focus (first | rfl | exact of_decide_eq_true rfl | (simp; done)))) | refine sda ?_ ?_ | refine conk rfl ?_ | refine ldk rfl ?_ | refine mapk (fun x hx => ?_) | exact ⟨rfl, rfl⟩ | refine nilk (fun h => absurd h (of_decide_eq_false rfl)) ?_ | refine nilk (fun h => absurd h (List.cons_ne_nil _ _)) ?_ | refine nilk (fun h => ?_) ?_ | exact rfl | exact True.intro | refine leftk1 rfl ?_ | refine bytk8 rfl ?_ | refine bytk rfl ?_ | exact leftk0 rfl | refine eqk rfl ?_ | refine fLm rfl ?_ | refine fLk (by assumption) ?_ | refine fVk ?_ | refine fLVk ?_ | refine fWk ?_ | intro hl))
 all_goals conv => whnf
 all_goals rfl
theorem fnd_MID : Ret Tryz.prog F_texts_find [.str ⟨#[77, 73, 68]⟩] (.tup [.fn F_texts_mid [] [], .int .i64 3, .int .i64 3]) := by
 refine r_texts_find rfl fun hw => ?_
 clear hw
 repeat' ((conv => whnf); (first | refine Bth.mk ?_ ?_ | refine pickk0 ?_ | refine csp (fun h => ?_) (fun h => ?_) | (apply clqi; apply rq_texts_ends rfl) | (apply clqi; apply rq_texts_texted rfl) | (apply clqi; apply rq_texts_made rfl) | (apply clqi; apply rq_texts_finds rfl) | (refine sda ?_ ?_; (focus (first | rfl | exact of_decide_eq_true rfl | (simp; done)))) | refine sda ?_ ?_ | refine conk rfl ?_ | refine ldk rfl ?_ | refine mapk (fun x hx => ?_) | exact ⟨rfl, rfl⟩ | refine nilk (fun h => absurd h (of_decide_eq_false rfl)) ?_ | refine nilk (fun h => absurd h (List.cons_ne_nil _ _)) ?_ | refine nilk (fun h => ?_) ?_ | exact rfl | exact True.intro | refine leftk1 rfl ?_ | refine bytk8 rfl ?_ | refine bytk rfl ?_ | exact leftk0 rfl | refine eqk rfl ?_ | refine fLm rfl ?_ | refine fLk (by assumption) ?_ | refine fVk ?_ | refine fLVk ?_ | refine fWk ?_ | intro hl))
 all_goals conv => whnf
 all_goals rfl
theorem fnd_REPLACE : Ret Tryz.prog F_texts_find [.str ⟨#[82, 69, 80, 76, 65, 67, 69]⟩] (.tup [.fn F_texts_replace [] [], .int .i64 4, .int .i64 4]) := by
 refine r_texts_find rfl fun hw => ?_
 clear hw
 repeat' ((conv => whnf); (first | refine Bth.mk ?_ ?_ | refine pickk0 ?_ | refine csp (fun h => ?_) (fun h => ?_) | (apply clqi; apply rq_texts_ends rfl) | (apply clqi; apply rq_texts_texted rfl) | (apply clqi; apply rq_texts_made rfl) | (apply clqi; apply rq_texts_finds rfl) | (refine sda ?_ ?_; (focus (first | rfl | exact of_decide_eq_true rfl | (simp; done)))) | refine sda ?_ ?_ | refine conk rfl ?_ | refine ldk rfl ?_ | refine mapk (fun x hx => ?_) | exact ⟨rfl, rfl⟩ | refine nilk (fun h => absurd h (of_decide_eq_false rfl)) ?_ | refine nilk (fun h => absurd h (List.cons_ne_nil _ _)) ?_ | refine nilk (fun h => ?_) ?_ | exact rfl | exact True.intro | refine leftk1 rfl ?_ | refine bytk8 rfl ?_ | refine bytk rfl ?_ | exact leftk0 rfl | refine eqk rfl ?_ | refine fLm rfl ?_ | refine fLk (by assumption) ?_ | refine fVk ?_ | refine fLVk ?_ | refine fWk ?_ | intro hl))
 all_goals conv => whnf
 all_goals rfl
theorem fnd_REPT : Ret Tryz.prog F_texts_find [.str ⟨#[82, 69, 80, 84]⟩] (.tup [.fn F_texts_rept [] [], .int .i64 2, .int .i64 2]) := by
 refine r_texts_find rfl fun hw => ?_
 clear hw
 repeat' ((conv => whnf); (first | refine Bth.mk ?_ ?_ | refine pickk0 ?_ | refine csp (fun h => ?_) (fun h => ?_) | (apply clqi; apply rq_texts_ends rfl) | (apply clqi; apply rq_texts_texted rfl) | (apply clqi; apply rq_texts_made rfl) | (apply clqi; apply rq_texts_finds rfl) | (refine sda ?_ ?_; (focus (first | rfl | exact of_decide_eq_true rfl | (simp; done)))) | refine sda ?_ ?_ | refine conk rfl ?_ | refine ldk rfl ?_ | refine mapk (fun x hx => ?_) | exact ⟨rfl, rfl⟩ | refine nilk (fun h => absurd h (of_decide_eq_false rfl)) ?_ | refine nilk (fun h => absurd h (List.cons_ne_nil _ _)) ?_ | refine nilk (fun h => ?_) ?_ | exact rfl | exact True.intro | refine leftk1 rfl ?_ | refine bytk8 rfl ?_ | refine bytk rfl ?_ | exact leftk0 rfl | refine eqk rfl ?_ | refine fLm rfl ?_ | refine fLk (by assumption) ?_ | refine fVk ?_ | refine fLVk ?_ | refine fWk ?_ | intro hl))
 all_goals conv => whnf
 all_goals rfl
theorem fnd_FIND : Ret Tryz.prog F_texts_find [.str ⟨#[70, 73, 78, 68]⟩] (.tup [.fn F_texts_finds_1 [] [.elem [.fn F_texts_find_6 [] []]], .int .i64 2, .int .i64 3]) := by
 refine r_texts_find rfl fun hw => ?_
 clear hw
 repeat' ((conv => whnf); (first | refine Bth.mk ?_ ?_ | refine pickk0 ?_ | refine csp (fun h => ?_) (fun h => ?_) | (apply clqi; apply rq_texts_ends rfl) | (apply clqi; apply rq_texts_texted rfl) | (apply clqi; apply rq_texts_made rfl) | (apply clqi; apply rq_texts_finds rfl) | (refine sda ?_ ?_; (focus (first | rfl | exact of_decide_eq_true rfl | (simp; done)))) | refine sda ?_ ?_ | refine conk rfl ?_ | refine ldk rfl ?_ | refine mapk (fun x hx => ?_) | exact ⟨rfl, rfl⟩ | refine nilk (fun h => absurd h (of_decide_eq_false rfl)) ?_ | refine nilk (fun h => absurd h (List.cons_ne_nil _ _)) ?_ | refine nilk (fun h => ?_) ?_ | exact rfl | exact True.intro | refine leftk1 rfl ?_ | refine bytk8 rfl ?_ | refine bytk rfl ?_ | exact leftk0 rfl | refine eqk rfl ?_ | refine fLm rfl ?_ | refine fLk (by assumption) ?_ | refine fVk ?_ | refine fLVk ?_ | refine fWk ?_ | intro hl))
 all_goals conv => whnf
 all_goals rfl
theorem ask_FIND (a b : Ar) (r : GV) (z : V) (hz : z = .row false []) (hr : RetL Tryz.prog F_texts_finds_1 [.ptr 0 0, .elem [.fn F_texts_find_6 [] []]] [.box true [.row false [cA a, cA b], .int .i64 0]] (eV r) [.box true [z, .int .i64 0]]) :
  Ret Tryz.prog F_octavolaw18_ask [.str ⟨#[70, 73, 78, 68]⟩, .row false [cA a, cA b]] (eV r) := by
 have hc : Ret Tryz.prog F_texts_Call [.str ⟨#[70, 73, 78, 68]⟩, .row false [cA a, cA b]] (.tup [eV r, .bool true]) := by
  subst hz
  refine r_texts_Call rfl fun hw => ?_
  clear hw
  repeat' ((conv => whnf); (first | refine Bth.mk ?_ ?_ | refine pickk0 ?_ | refine csp (fun h => ?_) (fun h => ?_) | refine cllo (fnd_FIND) (fun _ => ?_) | refine clll (RetL.frame hr _ [1] rfl (by simp) rfl rfl) (fun _ _ => ?_) | (refine sda ?_ ?_; (focus (first | rfl | exact of_decide_eq_true rfl | (simp; done)))) | refine sda ?_ ?_ | refine conk rfl ?_ | refine ldk rfl ?_ | refine mapk (fun x hx => ?_) | exact ⟨rfl, rfl⟩ | refine nilk (fun h => absurd h (of_decide_eq_false rfl)) ?_ | refine nilk (fun h => absurd h (List.cons_ne_nil _ _)) ?_ | refine nilk (fun h => ?_) ?_ | exact rfl | exact True.intro | refine leftk1 rfl ?_ | refine bytk8 rfl ?_ | refine bytk rfl ?_ | exact leftk0 rfl | refine eqk rfl ?_ | refine fLm rfl ?_ | refine fLk (by assumption) ?_ | refine fVk ?_ | refine fLVk ?_ | refine fWk ?_ | intro hl))
  all_goals conv => whnf
 refine r_octavolaw18_ask rfl fun hw => ?_
 clear hw
 repeat' ((conv => whnf); (first | refine Bth.mk ?_ ?_ | refine pickk0 ?_ | refine csp (fun h => ?_) (fun h => ?_) | refine cllo (hc) (fun _ => ?_) | (refine sda ?_ ?_; (focus (first | rfl | exact of_decide_eq_true rfl | (simp; done)))) | refine sda ?_ ?_ | refine conk rfl ?_ | refine ldk rfl ?_ | refine mapk (fun x hx => ?_) | exact ⟨rfl, rfl⟩ | refine nilk (fun h => absurd h (of_decide_eq_false rfl)) ?_ | refine nilk (fun h => absurd h (List.cons_ne_nil _ _)) ?_ | refine nilk (fun h => ?_) ?_ | exact rfl | exact True.intro | refine leftk1 rfl ?_ | refine bytk8 rfl ?_ | refine bytk rfl ?_ | exact leftk0 rfl | refine eqk rfl ?_ | refine fLm rfl ?_ | refine fLk (by assumption) ?_ | refine fVk ?_ | refine fLVk ?_ | refine fWk ?_ | intro hl))
 all_goals conv => whnf
theorem fnd_SUBSTITUTE : Ret Tryz.prog F_texts_find [.str ⟨#[83, 85, 66, 83, 84, 73, 84, 85, 84, 69]⟩] (.tup [.fn F_texts_substitute [] [], .int .i64 3, .int .i64 4]) := by
 refine r_texts_find rfl fun hw => ?_
 clear hw
 repeat' ((conv => whnf); (first | refine Bth.mk ?_ ?_ | refine pickk0 ?_ | refine csp (fun h => ?_) (fun h => ?_) | (apply clqi; apply rq_texts_ends rfl) | (apply clqi; apply rq_texts_texted rfl) | (apply clqi; apply rq_texts_made rfl) | (apply clqi; apply rq_texts_finds rfl) | (refine sda ?_ ?_; (focus (first | rfl | exact of_decide_eq_true rfl | (simp; done)))) | refine sda ?_ ?_ | refine conk rfl ?_ | refine ldk rfl ?_ | refine mapk (fun x hx => ?_) | exact ⟨rfl, rfl⟩ | refine nilk (fun h => absurd h (of_decide_eq_false rfl)) ?_ | refine nilk (fun h => absurd h (List.cons_ne_nil _ _)) ?_ | refine nilk (fun h => ?_) ?_ | exact rfl | exact True.intro | refine leftk1 rfl ?_ | refine bytk8 rfl ?_ | refine bytk rfl ?_ | exact leftk0 rfl | refine eqk rfl ?_ | refine fLm rfl ?_ | refine fLk (by assumption) ?_ | refine fVk ?_ | refine fLVk ?_ | refine fWk ?_ | intro hl))
 all_goals conv => whnf
 all_goals rfl
theorem fnd_CONCAT : Ret Tryz.prog F_texts_find [.str ⟨#[67, 79, 78, 67, 65, 84]⟩] (.tup [.fn F_texts_find_7 [] [], .int .i64 0, .int .i64 1073741824]) := by
 refine r_texts_find rfl fun hw => ?_
 clear hw
 repeat' ((conv => whnf); (first | refine Bth.mk ?_ ?_ | refine pickk0 ?_ | refine csp (fun h => ?_) (fun h => ?_) | (apply clqi; apply rq_texts_ends rfl) | (apply clqi; apply rq_texts_texted rfl) | (apply clqi; apply rq_texts_made rfl) | (apply clqi; apply rq_texts_finds rfl) | (refine sda ?_ ?_; (focus (first | rfl | exact of_decide_eq_true rfl | (simp; done)))) | refine sda ?_ ?_ | refine conk rfl ?_ | refine ldk rfl ?_ | refine mapk (fun x hx => ?_) | exact ⟨rfl, rfl⟩ | refine nilk (fun h => absurd h (of_decide_eq_false rfl)) ?_ | refine nilk (fun h => absurd h (List.cons_ne_nil _ _)) ?_ | refine nilk (fun h => ?_) ?_ | exact rfl | exact True.intro | refine leftk1 rfl ?_ | refine bytk8 rfl ?_ | refine bytk rfl ?_ | exact leftk0 rfl | refine eqk rfl ?_ | refine fLm rfl ?_ | refine fLk (by assumption) ?_ | refine fVk ?_ | refine fLVk ?_ | refine fWk ?_ | intro hl))
 all_goals conv => whnf
 all_goals rfl
theorem fnd_FIXED : Ret Tryz.prog F_texts_find [.str ⟨#[70, 73, 88, 69, 68]⟩] (.tup [.fn F_texts_fixed [] [], .int .i64 1, .int .i64 2]) := by
 refine r_texts_find rfl fun hw => ?_
 clear hw
 repeat' ((conv => whnf); (first | refine Bth.mk ?_ ?_ | refine pickk0 ?_ | refine csp (fun h => ?_) (fun h => ?_) | (apply clqi; apply rq_texts_ends rfl) | (apply clqi; apply rq_texts_texted rfl) | (apply clqi; apply rq_texts_made rfl) | (apply clqi; apply rq_texts_finds rfl) | (refine sda ?_ ?_; (focus (first | rfl | exact of_decide_eq_true rfl | (simp; done)))) | refine sda ?_ ?_ | refine conk rfl ?_ | refine ldk rfl ?_ | refine mapk (fun x hx => ?_) | exact ⟨rfl, rfl⟩ | refine nilk (fun h => absurd h (of_decide_eq_false rfl)) ?_ | refine nilk (fun h => absurd h (List.cons_ne_nil _ _)) ?_ | refine nilk (fun h => ?_) ?_ | exact rfl | exact True.intro | refine leftk1 rfl ?_ | refine bytk8 rfl ?_ | refine bytk rfl ?_ | exact leftk0 rfl | refine eqk rfl ?_ | refine fLm rfl ?_ | refine fLk (by assumption) ?_ | refine fVk ?_ | refine fLVk ?_ | refine fWk ?_ | intro hl))
 all_goals conv => whnf
 all_goals rfl
theorem ask_FIXED (a : Ar) (r : GV) (z : V) (hz : z = .row false []) (hr : RetL Tryz.prog F_texts_fixed [.ptr 0 0] [.box true [.row false [cA a], .int .i64 0]] (eV r) [.box true [z, .int .i64 0]]) :
  Ret Tryz.prog F_octavolaw18_ask [.str ⟨#[70, 73, 88, 69, 68]⟩, .row false [cA a]] (eV r) := by
 have hc : Ret Tryz.prog F_texts_Call [.str ⟨#[70, 73, 88, 69, 68]⟩, .row false [cA a]] (.tup [eV r, .bool true]) := by
  subst hz
  refine r_texts_Call rfl fun hw => ?_
  clear hw
  repeat' ((conv => whnf); (first | refine Bth.mk ?_ ?_ | refine pickk0 ?_ | refine csp (fun h => ?_) (fun h => ?_) | refine cllo (fnd_FIXED) (fun _ => ?_) | refine clll (RetL.frame hr _ [1] rfl (by simp) rfl rfl) (fun _ _ => ?_) | (refine sda ?_ ?_; (focus (first | rfl | exact of_decide_eq_true rfl | (simp; done)))) | refine sda ?_ ?_ | refine conk rfl ?_ | refine ldk rfl ?_ | refine mapk (fun x hx => ?_) | exact ⟨rfl, rfl⟩ | refine nilk (fun h => absurd h (of_decide_eq_false rfl)) ?_ | refine nilk (fun h => absurd h (List.cons_ne_nil _ _)) ?_ | refine nilk (fun h => ?_) ?_ | exact rfl | exact True.intro | refine leftk1 rfl ?_ | refine bytk8 rfl ?_ | refine bytk rfl ?_ | exact leftk0 rfl | refine eqk rfl ?_ | refine fLm rfl ?_ | refine fLk (by assumption) ?_ | refine fVk ?_ | refine fLVk ?_ | refine fWk ?_ | intro hl))
  all_goals conv => whnf
 refine r_octavolaw18_ask rfl fun hw => ?_
 clear hw
 repeat' ((conv => whnf); (first | refine Bth.mk ?_ ?_ | refine pickk0 ?_ | refine csp (fun h => ?_) (fun h => ?_) | refine cllo (hc) (fun _ => ?_) | (refine sda ?_ ?_; (focus (first | rfl | exact of_decide_eq_true rfl | (simp; done)))) | refine sda ?_ ?_ | refine conk rfl ?_ | refine ldk rfl ?_ | refine mapk (fun x hx => ?_) | exact ⟨rfl, rfl⟩ | refine nilk (fun h => absurd h (of_decide_eq_false rfl)) ?_ | refine nilk (fun h => absurd h (List.cons_ne_nil _ _)) ?_ | refine nilk (fun h => ?_) ?_ | exact rfl | exact True.intro | refine leftk1 rfl ?_ | refine bytk8 rfl ?_ | refine bytk rfl ?_ | exact leftk0 rfl | refine eqk rfl ?_ | refine fLm rfl ?_ | refine fLk (by assumption) ?_ | refine fVk ?_ | refine fLVk ?_ | refine fWk ?_ | intro hl))
 all_goals conv => whnf
end Go.Proofs.YtcbknemdidehlaaGreatDoor
set_option maxRecDepth 100000
set_option linter.all false
namespace Go.Proofs.YtcbknemdidehlaaGreatDoor
open Ab R
def catL (l : List ByteArray) : ByteArray := ⟨(l.flatMap (·.data.toList)).toArray⟩
structure Sm (l : List ByteArray) : Prop where
 len : l.length ≤ 255
 size : ∀ c ∈ l, c.size ≤ 255
theorem join_nil (l : List (List UInt8)) : Lib.join l [] = l.flatMap id := by
 induction l with
 | nil => rfl
 | cons x l ih =>
  cases l with
  | nil => simp [Lib.join]
  | cons y l => simp [Lib.join] at ih ⊢; simp [ih]
theorem join_e0 (l : List ByteArray) : Lib.join (l.map (·.data.toList)) e0.data.toList = l.flatMap (·.data.toList) := by
 show Lib.join (l.map (·.data.toList)) [] = _
 rw [join_nil, List.flatMap_map]
 rfl
theorem cat_len : ∀ {l : List ByteArray}, (∀ c ∈ l, c.size ≤ 255) → (l.flatMap (·.data.toList)).length ≤ l.length * 255
 | [], _ => by simp
 | c :: l, h => by
  have h1 := h c List.mem_cons_self
  have h2 := cat_len (l := l) fun c hc => h c (List.mem_cons_of_mem _ hc)
  have h3 : c.data.toList.length = c.size := Array.length_toList
  rw [List.flatMap_cons, List.length_append, h3, List.length_cons]
  omega
theorem Join_r (els : List (List V)) (l : List ByteArray) (he : els = l.map cS) (h : Sm l) : Ret Tryz.prog F_strings_Join [.row false els, .str e0] (.str (catL l)) := by
 subst he
 have hl := h.len
 have h1 := cat_len h.size
 have hb : (Lib.join (l.map (·.data.toList)) e0.data.toList).length ≤ 140737488355328 := by
  rw [join_e0]
  omega
 have := Join_c l e0 (by omega) hb
 have e : joinB l e0 = catL l := by rw [joinB, join_e0, catL]
 rwa [e] at this
theorem chs_size (s : ByteArray) : ∀ (m pos : Nat) (c : ByteArray), c ∈ Vl.chs s m pos → c.size ≤ s.size := by
 intro m
 induction m with
 | zero => intro pos c hc; cases hc
 | succ m ih =>
  intro pos c hc
  unfold Vl.chs at hc
  split at hc
  ·rcases List.mem_cons.1 hc with rfl | hc
   ·rw [ByteArray.size_extract]; omega
   ·exact ih _ c hc
  ·cases hc
theorem sm_chars {s : ByteArray} (h : s.size ≤ 255) : Sm (Vl.chars s) := ⟨by have := chars_len s; omega, fun c hc => by have := chs_size s _ _ c hc; omega⟩
theorem Sm.take {l : List ByteArray} (h : Sm l) (n : Nat) : Sm (l.take n) := ⟨by have := h.len; simp; omega, fun c hc => h.size c (List.mem_of_mem_take hc)⟩
theorem Sm.drop {l : List ByteArray} (h : Sm l) (n : Nat) : Sm (l.drop n) := ⟨by have := h.len; simp; omega, fun c hc => h.size c (List.mem_of_mem_drop hc)⟩
theorem len1 {e : List V} {l : List ByteArray} (h : e ∈ l.map cS) : e.length = 1 := by
 obtain ⟨c, _, rfl⟩ := List.mem_map.1 h
 rfl
theorem tk (l : List ByteArray) {k : Int} (hk : 0 ≤ k) : List.take ((if ((l.map cS).length : Int) < k then ((l.map cS).length : Int) else k) - 0).toNat (List.drop (Int.toNat 0) (l.map cS)) = (l.take k.toNat).map cS := by
 simp only [List.length_map, Int.toNat_zero, List.drop_zero]
 split
 ·rw [List.map_take, List.take_of_length_le (by simp), List.take_of_length_le (by simp; omega)]
 ·rw [List.map_take, Int.sub_zero]
theorem dr (l : List ByteArray) {k : Int} (hk : 0 ≤ k) (h9 : l.length ≤ 255) : List.take (((l.map cS).length : Int) - IntKind.i64.wrap (((l.map cS).length : Int) - if ((l.map cS).length : Int) < k then ((l.map cS).length : Int) else k)).toNat (List.drop (IntKind.i64.wrap (((l.map cS).length : Int) - if ((l.map cS).length : Int) < k then ((l.map cS).length : Int) else k)).toNat (l.map cS)) = (l.drop (l.length - k.toNat)).map cS := by
 simp only [List.length_map]
 rw [w64 (by split <;> omega), List.take_of_length_le (by simp; split <;> omega), List.map_drop]
 congr 1
 split <;> omega
theorem left_c (s : ByteArray) (hs : s.size ≤ 255) (k : Int) (hk : 0 ≤ k ∧ k ≤ 10000000) :
  RetL Tryz.prog F_texts_ends_1 [.ptr 0 0, .elem [.bool true]] [.box true [.row false [cA (oA ⟨2, 0, s⟩), cA (oA ⟨1, k * 10000, e0⟩)], .int .i64 0]] (eV (strS (catL ((Vl.chars s).take k.toNat)))) [.box true [.row false [], .int .i64 0]] := by
 have hc := Chars_c s (by omega)
 have hsm := sm_chars hs
 have hj := fun els he => Join_r els _ he (hsm.take k.toNat)
 have hk0 : (!decide (k ≥ 0)) = false := by simp; omega
 have hlm : (List.map cS (Vl.chars s)).length = (Vl.chars s).length := List.length_map _
 refine rl_texts_ends_1 rfl fun hw _ => ?_
 clear hw
 repeat' ((conv => whnf); (first | refine Bth.mk ?_ ?_ | refine csp_f (hk0) ?_ | refine pickk0 ?_ | refine csp (fun h => ?_) (fun h => ?_) | refine clll (RetL.frame (text_c s hs [oA ⟨1, k * 10000, e0⟩]) _ [0] rfl (by simp) rfl rfl) (fun _ _ => ?_) | refine cllo (hc) (fun _ => ?_) | refine clll (RetL.frame (whole_c k 1 ⟨by omega, by omega⟩ []) _ [0] rfl (by simp) rfl rfl) (fun _ _ => ?_) | (apply clqi; apply rq_texts_asked_tells rfl) | (apply clqi; apply rq_texts_ends_1_1 rfl) | refine cllo (hj _ (tk _ hk.1)) (fun _ => ?_) | refine cllo (value_Str _) (fun _ => ?_) | (refine sda ?_ ?_; (focus (first | rfl | exact of_decide_eq_true rfl | (simp; done)))) | refine sda ?_ ?_ | refine conk rfl ?_ | refine ldk rfl ?_ | refine mapk (fun x hx => ?_) | exact ⟨rfl, rfl⟩ | refine nilk (fun h => absurd h (of_decide_eq_false rfl)) ?_ | refine nilk (fun h => absurd h (List.cons_ne_nil _ _)) ?_ | refine nilk (fun h => ?_) ?_ | exact rfl | exact True.intro | refine leftk1 rfl ?_ | refine bytk8 rfl ?_ | refine bytk rfl ?_ | exact leftk0 rfl | refine eqk rfl ?_ | refine fLm rfl ?_ | refine fLk (by assumption) ?_ | refine fVk ?_ | refine fLVk ?_ | refine fWk ?_ | intro hl))
 all_goals conv => whnf
 ·rw [hlm]
  refine ⟨by omega, ?_, ?_⟩ <;> split <;> omega
 ·exact len1 hl
theorem texts_whole_c (k : Int) (h : -10000000 ≤ k ∧ k ≤ 10000000) : Ret Tryz.prog F_texts_whole [.int .i64 k] (eV ⟨1, k * 10000, e0⟩) := by
 have ho := value_Of (IntKind.i64.wrap (k * 10000)) true
 have e : ofS (IntKind.i64.wrap (k * 10000)) true = ⟨1, k * 10000, e0⟩ := by
  rw [w64 (by omega), ofS, if_pos (by simp [goodN]; omega)]
 rw [e] at ho
 refine r_texts_whole rfl fun hw => ?_
 clear hw
 repeat' ((conv => whnf); (first | refine csp (fun h => ?_) (fun h => ?_) | refine cllo (ho) (fun _ => ?_) | (refine sda ?_ ?_; (focus (first | rfl | (simp; done)))) | refine sda ?_ ?_ | refine conk rfl ?_ | refine ldk rfl ?_ | refine mapk (fun x hx => ?_) | exact ⟨rfl, rfl⟩ | refine nilk (fun h => ?_) ?_ | intro hl))
 all_goals conv => whnf
theorem tkd (l : List ByteArray) (a b : Nat) : List.take b (List.drop a (l.map cS)) = ((l.drop a).take b).map cS := by rw [List.map_take, List.map_drop]
theorem part_c (l : List ByteArray) (at_ n : Int) (h1 : 1 ≤ at_ ∧ at_ ≤ 10000000) (h2 : 0 ≤ n ∧ n ≤ 10000000) (h9 : l.length ≤ 255) :
  Ret Tryz.prog F_texts_part [.row false (l.map cS), .int .i64 at_, .int .i64 n] (.tup [.row false ((l.take (at_ - 1).toNat).map cS), .row false (((l.drop (at_ - 1).toNat).take n.toNat).map cS), .row false ((l.drop ((at_ - 1).toNat + n.toNat)).map cS)]) := by
 have hlm : ((List.map cS l).length : Int) = l.length := by rw [List.length_map]
 refine r_texts_part rfl fun hw => ?_
 clear hw
 repeat' ((conv => whnf); (first | refine Bth.mk ?_ ?_ | refine pickk0 ?_ | refine csp (fun h => ?_) (fun h => ?_) | (refine sda ?_ ?_; (focus (first | rfl | exact of_decide_eq_true rfl | (simp; done)))) | refine sda ?_ ?_ | refine conk rfl ?_ | refine ldk rfl ?_ | refine mapk (fun x hx => ?_) | exact ⟨rfl, rfl⟩ | refine nilk (fun h => absurd h (of_decide_eq_false rfl)) ?_ | refine nilk (fun h => absurd h (List.cons_ne_nil _ _)) ?_ | refine nilk (fun h => ?_) ?_ | exact rfl | exact True.intro | refine leftk1 rfl ?_ | refine bytk8 rfl ?_ | refine bytk rfl ?_ | exact leftk0 rfl | refine eqk rfl ?_ | refine fLm rfl ?_ | refine fLk (by assumption) ?_ | refine fVk ?_ | refine fLVk ?_ | refine fWk ?_ | intro hl))
 all_goals conv => whnf
 all_goals first | exact len1 (by assumption) | skip
 all_goals rw [hlm]
 all_goals rw [w64 (n := at_ - 1) (by omega)]
 all_goals generalize hF : (if (l.length : Int) < at_ - 1 then (l.length : Int) else at_ - 1) = F
 all_goals have hF' : (F = l.length ∧ (l.length : Int) < at_ - 1) ∨ (F = at_ - 1 ∧ ¬ (l.length : Int) < at_ - 1) := by split at hF <;> omega
 ·omega
 all_goals rw [w64 (n := (l.length : Int) - F) (by omega)]
 all_goals generalize hH : (if (l.length : Int) - F < n then (l.length : Int) - F else n) = H
 all_goals have hH' : (H = l.length - F ∧ (l.length : Int) - F < n) ∨ (H = n ∧ ¬ (l.length : Int) - F < n) := by split at hH <;> omega
 all_goals rw [w64 (n := F + H) (by omega)]
 ·omega
 ·omega
 ·have e1 : l.take (F - 0).toNat = l.take (at_ - 1).toNat := by
   rcases hF' with ⟨e, c⟩ | ⟨e, c⟩
   ·rw [List.take_of_length_le (by omega), List.take_of_length_le (by omega)]
   ·rw [e, Int.sub_zero]
  have e2 : (l.drop F.toNat).take (F + H - F).toNat = (l.drop (at_ - 1).toNat).take n.toNat := by
   rcases hF' with ⟨e, c⟩ | ⟨e, c⟩
   ·rw [List.drop_eq_nil_of_le (by omega), List.drop_eq_nil_of_le (by omega), List.take_nil, List.take_nil]
   ·rw [e]
    rcases hH' with ⟨e', c'⟩ | ⟨e', c'⟩
    ·rw [List.take_of_length_le (by simp; omega), List.take_of_length_le (by simp; omega)]
    ·rw [e', show at_ - 1 + n - (at_ - 1) = n by omega]
  have e3 : (l.drop (F + H).toNat).take ((l.length : Int) - (F + H)).toNat = l.drop ((at_ - 1).toNat + n.toNat) := by
   rw [List.take_of_length_le (by simp; omega)]
   rcases hF' with ⟨e, c⟩ | ⟨e, c⟩
   ·rw [List.drop_eq_nil_of_le (by omega), List.drop_eq_nil_of_le (by omega)]
   ·rcases hH' with ⟨e', c'⟩ | ⟨e', c'⟩
    ·rw [List.drop_eq_nil_of_le (by omega), List.drop_eq_nil_of_le (by omega)]
    ·congr 1
     omega
  rw [tkd, tkd, tkd, Int.toNat_zero, List.drop_zero, e1, e2, e3]
end Go.Proofs.YtcbknemdidehlaaGreatDoor
set_option maxRecDepth 100000
set_option linter.all false
namespace Go.Proofs.YtcbknemdidehlaaGreatDoor
open Ab R
theorem cat_size {l : List ByteArray} (h : Sm l) : (catL l).size ≤ 65025 := by
 have h1 := cat_len h.size
 have h2 := h.len
 have h3 : (catL l).size = (l.flatMap (·.data.toList)).length := by show (l.flatMap (·.data.toList)).toArray.size = _; rw [List.size_toArray]
 omega
end Go.Proofs.YtcbknemdidehlaaGreatDoor
set_option maxRecDepth 100000
set_option linter.all false
namespace Go.Proofs.YtcbknemdidehlaaGreatDoor
open Go Go.Proofs Go.Shelf Go.RowKit
structure Kept (b : Nat) (v : Value) (w w' : World) : Prop where
 os : w'.os = w.os
 tape : w'.tape = w.tape
 output : w'.output = w.output
 size : w.heap.size ≤ w'.heap.size
 block : ∀ k, k < w.heap.size → k ≠ b → some k ≠ v.ownBlock → w'.heap[k]? = w.heap[k]?
variable {P : Program} {ρ : Ren}
theorem cc_exact (L : Lays.n166 P ρ) (X : Builder.Extra P ρ) (B b : Nat) (p v : Value) (n : Nat) (bs : List Value) (w : World) (hp : p = .pointer none ∨ p = .pointer (some ⟨b, 0, none⟩)) (hbk : w.heap[b]? = some (.cells #[p, v] (ρ.t 72) (0, 0))) (hown : w.ownsRow B (ρ.t 5) 1 v n bs) :
  ∃ W1, (Calls P (ρ.f 240) #[.pointer (some ⟨b, 0, none⟩)] w fun e w' => e = .returned (.tuple #[]) ∧ w' = W1) ∧ W1.heap[b]? = some (.cells #[.pointer (some ⟨b, 0, none⟩), v] (ρ.t 72) (0, 0)) ∧ W1.ownsRow B (ρ.t 5) 1 v n bs ∧ W1.os = w.os ∧ W1.tape = w.tape ∧ W1.output = w.output ∧ W1.heap.size = w.heap.size ∧ ∀ k, k ≠ b → W1.heap[k]? = w.heap[k]? := by
 have hne := Lib.ownBlock_ne hown hbk X.neB5
 rcases hp with rfl | rfl
 ·refine ⟨w.setCell ⟨b, 0, none⟩ (.pointer (some ⟨b, 0, none⟩)), Any.Builder_copyCheck_fresh { L with } X.toX72 b w (by rw [Lib.cell_of_heap hbk]; rfl) (by simp [World.shape?, hbk]) (Lib.frozen_of_heap hbk 0), ?_, ?_, rfl, rfl, rfl, by simp [World.setCell], fun k hk => heap_setCell_other w _ k _ hk⟩
  ·simp [World.setCell, Array.getElem?_modify, hbk]
  ·exact hown.kept (row := some b) ⟨rfl, rfl, rfl, by simp [World.setCell], fun k _ hk => Below.heap_setCell _ _ _ _ (fun e => hk (by simp [e]))⟩ (Or.inr hne)
 ·exact ⟨w, Any.Builder_copyCheck_used { L with } X.toX72 b w (by rw [Lib.cell_of_heap hbk]; rfl), hbk, hown, rfl, rfl, rfl, rfl, fun k _ => rfl⟩
set_option maxHeartbeats 2000000 in
theorem ws_exact (L : Lays.n166 P ρ) (X : Builder.Extra P ρ) (B b : Nat) (p v : Value) (bs : List Value) (s : ByteArray) (w : World) (hp : p = .pointer none ∨ p = .pointer (some ⟨b, 0, none⟩)) (hbk : w.heap[b]? = some (.cells #[p, v] (ρ.t 72) (0, 0)))
  (hown : w.ownsRow B (ρ.t 5) 1 v bs.length bs) (hlen : bs.length + s.size ≤ 140737488355328) (hBw : B ≤ w.heap.size) :
  Calls P (ρ.f 166) #[.pointer (some ⟨b, 0, none⟩), .string s] w fun e w' => e = .returned (.tuple #[.int .i64 s.size, .nilIface]) ∧ ∃ v', w'.heap[b]? = some (.cells #[.pointer (some ⟨b, 0, none⟩), v'] (ρ.t 72) (0, 0)) ∧ w'.ownsRow B (ρ.t 5) 1 v' (bs ++ Lib.strCells s).length (bs ++ Lib.strCells s) ∧ Kept b v w w' := by
 obtain ⟨W1, hcc, hbk1, hown1, hos, hta, hou, hsz, hkp⟩ := cc_exact L X B b p v _ bs w hp hbk hown
 have hne := Lib.ownBlock_ne hown1 hbk1 X.neB5
 obtain ⟨i0, hi, hz0, hz1, hz2⟩ := info_parts X.infoByte
 have mixed := L.mixed
 have t72 := L.t72; have a72 := L.a72; have z72 := L.z72; have v72 := L.v72; have u72 := run_underlying L.t72
 have t70 := L.t70; have a70 := L.a70; have z70 := L.z70; have v70 := L.v70; have u70 := run_underlying L.t70
 have t37 := L.t37; have a37 := L.a37; have z37 := L.z37; have v37 := L.v37; have u37 := run_underlying L.t37
 have t3 := L.t3; have a3 := L.a3; have z3 := L.z3; have v3 := L.v3; have u3 := run_underlying L.t3
 have t9 := L.t9; have a9 := L.a9; have z9 := L.z9; have v9 := L.v9; have u9 := run_underlying L.t9
 have t4 := L.t4; have a4 := L.a4; have z4 := L.z4; have v4 := L.v4; have u4 := run_underlying L.t4
 have t164 := L.t164; have a164 := L.a164; have z164 := L.z164; have v164 := L.v164; have u164 := run_underlying L.t164
 have t5 := X.t5; have a5 := X.a5; have z5 := X.z5; have v5 := X.v5; have u5 := run_underlying X.t5
 have e240 : ∀ args w, (callFunc (ρ.f 240) args).run P w = .ok (.enter (ρ.f 240) args) w := enters_of L.f240 (by kernel_rfl) rfl
 have c0 : W1.cell? ⟨b, 0, none⟩ = some (.pointer (some ⟨b, 0, none⟩)) := by rw [Lib.cell_of_heap hbk1]; rfl
 have c1 : W1.cell? ⟨b, 1, none⟩ = some v := by rw [Lib.cell_of_heap hbk1]; rfl
 go_enter L.f166, Body.n166_ntmps ρ
 go_wp2_with (go_at_fn (ρ.f 240); refine hcc.mono ?_)
 rintro e w1 ⟨rfl, rfl⟩
 go_wp2_with (at_builtin; refine Lib.wpList_append_own_string _ rfl _ _ (ρ.t 37) (ρ.t 9) rfl B (ρ.t 5) i0 L.t37 L.t9 hi hz0 hz1 hz2 _ _ _ rfl hown1 s rfl ?c3 ?c4 ?c5 ?_)
 case c3 => unfold maxLen; omega
 case c4 => omega
 case c5 => omega
 intro v' w2 hown' hgrow _
 have hlt : b < w1.heap.size := by
  rcases Nat.lt_or_ge b w1.heap.size with h' | h'
  ·exact h'
  ·simp [Array.getElem?_eq_none h'] at hbk1
 have hb2 : w2.heap[b]? = some (.cells #[.pointer (some ⟨b, 0, none⟩), v] (ρ.t 72) (0, 0)) := by
  rw [hgrow.block b hlt (fun e => hne e.symm)]
  exact hbk1
 have d0 : w2.cell? ⟨b, 0, none⟩ = some (.pointer (some ⟨b, 0, none⟩)) := by rw [Lib.cell_of_heap hb2]; rfl
 have d1 : w2.cell? ⟨b, 1, none⟩ = some v := by rw [Lib.cell_of_heap hb2]; rfl
 have f1 : w2.frozen? ⟨b, 1, none⟩ = false := Lib.frozen_of_heap hb2 1
 obtain ⟨ao, n', cap, rfl⟩ : ∃ ao n' cap, v' = .slice ao n' cap := by
  rcases hown'.2 with ⟨hv, _⟩ | ⟨g, cap, cur, hv, _⟩
  ·exact ⟨_, _, _, hv⟩
  ·exact ⟨_, _, _, hv⟩
 go_wp2
 go_ret2
 refine ⟨rfl, ?_⟩
 obtain ⟨_, v2, hb3, hown3, _⟩ := Lib.BuilderAt.put (T := (ρ.t 72)) (e := (ρ.t 5)) (B := 0) (Nat.zero_le b) hb2 (v' := .slice ao n' cap) (bs' := bs ++ Lib.strCells s) (by
  have h9 : w2.ownsRow B (ρ.t 5) 1 (.slice ao n' cap) (bs ++ Lib.strCells s).length (bs ++ Lib.strCells s) := by simpa [Lib.strCells_length] using hown'
  exact ⟨h9.1, h9.2.imp id fun ⟨g, cap, cur, r1, r2, r3⟩ => ⟨g, cap, cur, r1, Nat.zero_le _, r3⟩⟩) X.neB5
 have h9 : w2.ownsRow B (ρ.t 5) 1 (.slice ao n' cap) (bs ++ Lib.strCells s).length (bs ++ Lib.strCells s) := by simpa [Lib.strCells_length] using hown'
 refine ⟨.slice ao n' cap, ?_, ?_, ⟨?_, ?_, ?_, ?_, ?_⟩⟩
 ·simp [World.setCell, Array.getElem?_modify, hb2]
 ·exact h9.kept (row := some b) ⟨rfl, rfl, rfl, by simp [World.setCell], fun k _ hk => Below.heap_setCell _ _ _ _ (fun e => hk (by simp [e]))⟩ (Or.inr (Lib.ownBlock_ne h9 hb2 X.neB5))
 ·exact hgrow.os.trans hos
 ·exact hgrow.tape.trans hta
 ·exact hgrow.output.trans hou
 ·have := hgrow.size
  simp [World.setCell]
  omega
 ·intro k hk hkb hkv
  rw [heap_setCell_other _ _ _ _ hkb, hgrow.block k (by omega) hkv, hkp k hkb]
end Go.Proofs.YtcbknemdidehlaaGreatDoor
set_option maxRecDepth 100000
set_option linter.all false
namespace Go.Proofs.YtcbknemdidehlaaGreatDoor
open Go Go.Proofs Go.Shelf Go.RowKit P Go.Proofs.YtcbknemdidehlaaGreatDoorW.PrintWords Go.Proofs.YtcbknemdidehlaaGreatDoorW.PrintLast
theorem below_le {B C : Nat} {w w' : World} (h : Below C w w') (hb : B ≤ C) : Below B w w' := ⟨h.os, h.tape, h.output, h.size, fun k hk => h.block k (by omega)⟩
theorem byte_bd {s : ByteArray} {c : Int} (h : c ∈ bytesOf s) : 0 ≤ c ∧ c ≤ 255 := by
 unfold bytesOf at h
 obtain ⟨x, _, rfl⟩ := List.mem_map.1 h
 have := x.toNat_lt
 exact ⟨Int.natCast_nonneg _, by exact_mod_cast Nat.le_of_lt_succ this⟩
theorem ws_c (B b : Nat) (p v : Value) (bs : List Value) (s : ByteArray) (w : World) (hp : p = .pointer none ∨ p = .pointer (some ⟨b, 0, none⟩)) (hbk : w.heap[b]? = some (.cells #[p, v] 102 (0, 0)))
  (hown : w.ownsRow B 5 1 v bs.length bs) (hlen : bs.length + s.size ≤ 140737488355328) (hBw : B ≤ w.heap.size) :
  Calls Tryz.prog 107 #[.pointer (some ⟨b, 0, none⟩), .string s] w fun e w' => e = .returned (.tuple #[.int .i64 s.size, .nilIface]) ∧ ∃ v', w'.heap[b]? = some (.cells #[.pointer (some ⟨b, 0, none⟩), v'] 102 (0, 0)) ∧ w'.ownsRow B 5 1 v' (bs ++ Lib.strCells s).length (bs ++ Lib.strCells s) ∧ Kept b v w w' :=
 ws_exact (P := Tryz.prog) (ρ := Tryz.lays156_ren) { Tryz.lays156 with } Tryz.Builder_Extra_156 B b p v bs s w hp hbk hown hlen hBw
def isL (c : Int) : Bool := decide (97 ≤ Go.bits .or .u8 c 32) && (decide (Go.bits .or .u8 c 32 ≤ 122) && decide (c < 128))
theorem isL_y {c : Int} (h1 : 97 ≤ Go.bits .or .u8 c 32) (h2 : Go.bits .or .u8 c 32 ≤ 122) : decide (c < 128) = isL c := by
 unfold isL
 rw [decide_eq_true h1, decide_eq_true h2]
 rfl
theorem isL_n {c : Int} (h : Go.bits .or .u8 c 32 < 97 ∨ 122 < Go.bits .or .u8 c 32) : false = isL c := by
 unfold isL
 rcases h with h | h
 ·rw [decide_eq_false (by omega)]
  rfl
 ·rw [decide_eq_false (p := Go.bits .or .u8 c 32 ≤ 122) (by omega)]
  simp
def prB (up lo : Int → ByteArray) : Bool → List Int → List UInt8
 | _, [] => []
 | bh, c :: l => (if bh then lo c else up c).data.toList ++ prB up lo (isL c) l
structure PR (n0 : Nat) (w0 : World) (s : ByteArray) (wr : World) (p v : Value) (l : List UInt8) : Prop where
 P : p = .pointer none ∨ p = .pointer (some ⟨n0, 0, none⟩)
 K : wr.heap[n0]? = some (.cells #[p, v] 102 (0, 0))
 O : wr.ownsRow (n0 + 2) 5 1 v (Lib.byteCells l).length (Lib.byteCells l)
 C : X.BL wr (n0 + 1) 5 (bytesOf s)
 S : n0 + 2 ≤ wr.heap.size
 B : Below n0 w0 wr
theorem PR.next {n0 : Nat} {w0 : World} {s : ByteArray} {wr : World} {p v : Value} {l : List UInt8} (h : PR n0 w0 s wr p v l) (c : Int) (x : ByteArray) (hx : x.size = 1) (hl : l.length ≤ 1048576) {w2 : World} (hb : Below (wr.alloc (.cells #[.int .u8 c] 5)).heap.size (wr.alloc (.cells #[.int .u8 c] 5)) w2) :
  Calls Tryz.prog 107 #[.pointer (some ⟨n0, 0, none⟩), .string x] w2 fun e w3 => e = .returned (.tuple #[.int .i64 x.size, .nilIface]) ∧ ∃ v', PR n0 w0 s w3 (.pointer (some ⟨n0, 0, none⟩)) v' (l ++ x.data.toList) := by
 have h1 : wr.heap.size < (wr.alloc (.cells #[.int .u8 c] 5)).heap.size := by simp [World.alloc, -World.alloc_eq]
 have h2 : ∀ j, j < wr.heap.size → w2.heap[j]? = wr.heap[j]? := fun j hj => by
  rw [hb.block j (by omega)]
  simp [World.alloc, -World.alloc_eq, Array.getElem?_push, Nat.ne_of_lt hj]
 have h3 : wr.heap.size ≤ w2.heap.size := by have := hb.size; omega
 have h4 : Below wr.heap.size wr w2 := ⟨hb.os, hb.tape, hb.output, h3, h2⟩
 have hS := h.S
 have hK2 : w2.heap[n0]? = some (.cells #[p, v] 102 (0, 0)) := by rw [h2 _ (by omega)]; exact h.K
 have hO2 := h.O.kept (row := none) ⟨hb.os, hb.tape, hb.output, h3, fun j hj _ => h2 j hj⟩ (by cases v.ownBlock <;> simp)
 have hC2 := h.C.below h4 (by omega)
 refine (ws_c (n0 + 2) n0 p v (Lib.byteCells l) x w2 h.P hK2 hO2 (by rw [Lib.byteCells_length, hx]; omega) (by omega)).mono ?_
 rintro e w3 ⟨he, v', g1, g2, g3⟩
 have hob : ∀ k, v.ownBlock = some k → n0 + 2 ≤ k := fun k hk => own_base hO2 k hk
 have hkeep : ∀ j, j < n0 + 2 → j ≠ n0 → w3.heap[j]? = w2.heap[j]? := fun j hj hne => g3.block j (by omega) hne fun q => by have := hob j q.symm; omega
 refine ⟨he, v', .inr rfl, g1, ?_, ?_, by have := g3.size; omega, ⟨g3.os.trans (hb.os.trans h.B.os), g3.tape.trans (hb.tape.trans h.B.tape), g3.output.trans (hb.output.trans h.B.output), by have := g3.size; have := h.B.size; omega, fun j hj => ?_⟩⟩
 ·rw [Lib.strCells_eq, ← Lib.byteCells_append] at g2
  exact g2
 ·obtain ⟨ex, fr, q, hl⟩ := hC2
  exact ⟨ex, fr, (hkeep _ (by omega) (by omega)).trans q, hl⟩
 ·rw [hkeep j (by omega) (by omega), h2 j (by omega), h.B.block j hj]
set_option maxHeartbeats 2000000 in
theorem proper_walk (up lo : Int → ByteArray) (hup : ∀ c : Int, 0 ≤ c → c ≤ 255 → value_Upper.f (strOfNums [c]) = some (up c) ∧ (up c).size = 1) (hlo : ∀ c : Int, 0 ≤ c → c ≤ 255 → value_Lower.f (strOfNums [c]) = some (lo c) ∧ (lo c).size = 1) (s : ByteArray) (hs : s.size ≤ 1048576) (w : World) :
  Calls Tryz.prog 51 #[.string s] w fun e w' => e = .returned (.string ⟨(prB up lo false (bytesOf s)).toArray⟩) ∧ Below w.heap.size w w' := by
 have hcv := Lib.run_convert_string_bytes (P := Tryz.prog) (w.alloc (.cells #[.pointer none, .slice none 0 0] 102)) 9 87 5 s Tryz.underlying9 Tryz.underlying87 Tryz.underlying5
 have hN0 : (w.alloc (.cells #[.pointer none, .slice none 0 0] 102)).heap.size = w.heap.size + 1 := by simp [World.alloc, -World.alloc_eq]
 have HN : Aside0 (PR w.heap.size w s (Lib.bytesWorld (w.alloc (.cells #[.pointer none, .slice none 0 0] 102)) 5 s) (.pointer none) (.slice none 0 0) []) := ⟨⟨.inl rfl, by rw [Lib.bytesWorld_at_old _ _ _ _ (by omega)]; simp [World.alloc, -World.alloc_eq], own_nil _ _ _ _,
  by have := X.BL.new (w.alloc (.cells #[.pointer none, .slice none 0 0] 102)) 5 s; rwa [hN0] at this, by rw [Lib.bytesWorld_size, hN0]; exact Nat.le_refl _, ((Below.refl _ w).alloc (Nat.le_refl _) _).trans (below_le (X.below_bytes _ _ _) (by omega))⟩⟩
 rw [hN0] at hcv
 generalize Lib.bytesWorld (w.alloc (.cells #[.pointer none, .slice none 0 0] 102)) 5 s = w0 at hcv HN
 generalize grownCap (w.alloc (.cells #[.pointer none, .slice none 0 0] 102)) s.size 0 5 = cp at hcv
 clear hN0
 go_enter Tryz.func51, Tryz.ntmps51
 go_wp2
 go_loopw [12, 4] (fun v12 v4 wr => ∃ (k : Nat) (bh : Bool) (p v : Value) (l : List UInt8), k ≤ s.size ∧ v12 = .int .i64 (k : Int) ∧ v4 = .bool bh ∧ Aside0 (l.length = k) ∧ Aside0 (prB up lo false (bytesOf s) = l ++ prB up lo bh ((bytesOf s).drop k)) ∧ Aside0 (PR w.heap.size w s wr p v l)) (fun v12 v4 _ => s.size - (intOf v12).toNat)
 case atStart => exact ⟨0, false, _, _, [], Nat.zero_le _, rfl, rfl, ⟨rfl⟩, ⟨by simp⟩, HN⟩
 case round =>
  clear hcv HN
  obtain ⟨k, bh, p, v, l, hk, rfl, rfl, HL, HE, HR⟩ := hrel
  by_cases hlt : k < s.size
  ·have hkA : k < (bytesOf s).length := by rw [bytesOf_length]; exact hlt
   have hcell := HR.out.C.cell hkA
   have hr : 0 ≤ (bytesOf s)[k]'hkA ∧ (bytesOf s)[k]'hkA ≤ 255 := by
    have hm := List.getElem_mem hkA
    generalize (bytesOf s)[k]'hkA = c at hm
    exact byte_bd hm
   have HD : Aside0 ((bytesOf s).drop k = (bytesOf s)[k]'hkA :: (bytesOf s).drop (k + 1)) := ⟨List.drop_eq_getElem_cons hkA⟩
   generalize (bytesOf s)[k]'hkA = c at hcell hr HD
   have HCX : Aside0 ((convert 87 9 (.slice (some ⟨wr.heap.size, 0, none⟩) 1 1)).run Tryz.prog (wr.alloc (.cells #[.int .u8 c] 5)) = .ok (.string (strOfNums [c])) (wr.alloc (.cells #[.int .u8 c] 5))) := ⟨by
    refine run_convert_bytes_arg (P := Tryz.prog) (w := wr.alloc (.cells #[.int .u8 c] 5)) 87 5 Tryz.underlying87 Tryz.underlying5 wr.heap.size 0 1 1 [c] rfl (fun i hi => ?_) 9 Tryz.underlying9
    obtain rfl : i = 0 := by omega
    simp [World.cell?, World.alloc, -World.alloc_eq]⟩
   have HZ9 : Aside0 (((k : Int) + 1) ≤ 9223372036854775807) := ⟨by omega⟩
   have HU1 := Aside0.mk (hup c hr.1 hr.2).1
   have HU2 := Aside0.mk (hup c hr.1 hr.2).2
   have HV1 := Aside0.mk (hlo c hr.1 hr.2).1
   have HV2 := Aside0.mk (hlo c hr.1 hr.2).2
   have HM : Aside0 (l.length ≤ 1048576) := ⟨by have := HL.out; omega⟩
   clear hr hkA hup hlo
   cases bh with
   | false =>
    go_wp2
    rw [HCX.out]
    simp only [Result.andThen]
    rw [Oper.upon_value]
    clear HCX
    go_wp2_with (first
     | (go_at_call 49; refine (value_Upper.calls _ _ _ HU1.out).mono ?_; rintro e w2 ⟨rfl, hb⟩; have HB2 := Aside0.mk hb; clear hb)
     | (go_at_call 107; refine (HR.out.next c _ HU2.out HM.out HB2.out).mono ?_; rintro e w3 ⟨rfl, hnx⟩; have HNX := Aside0.mk hnx; clear hnx; have hz := HZ9.out))
    all_goals
     obtain ⟨v', hN⟩ := HNX.out
     have hl9 := HL.out
     have hx9 := HU2.out
     have hs9 : ∀ x : ByteArray, x.data.toList.length = x.size := fun x => Array.length_toList
     refine ⟨⟨k + 1, isL c, _, v', _, by omega, by rw [Int.natCast_add]; rfl, by first | with_reducible exact congrArg Value.bool (isL_y (by assumption) (by assumption)) | with_reducible exact congrArg Value.bool (isL_n (.inl (by assumption))) | with_reducible exact congrArg Value.bool (isL_n (.inr (by assumption))), ⟨by rw [List.length_append, hs9]; omega⟩, ⟨by rw [HE.out, HD.out, List.append_assoc]; rfl⟩, ⟨hN⟩⟩, by simp only [intOf]; omega⟩
   | true =>
    go_wp2
    rw [HCX.out]
    simp only [Result.andThen]
    rw [Oper.upon_value]
    clear HCX
    go_wp2_with (first
     | (go_at_call 50; refine (value_Lower.calls _ _ _ HV1.out).mono ?_; rintro e w2 ⟨rfl, hb⟩; have HB2 := Aside0.mk hb; clear hb)
     | (go_at_call 107; refine (HR.out.next c _ HV2.out HM.out HB2.out).mono ?_; rintro e w3 ⟨rfl, hnx⟩; have HNX := Aside0.mk hnx; clear hnx; have hz := HZ9.out))
    all_goals
     obtain ⟨v', hN⟩ := HNX.out
     have hl9 := HL.out
     have hx9 := HV2.out
     have hs9 : ∀ x : ByteArray, x.data.toList.length = x.size := fun x => Array.length_toList
     refine ⟨⟨k + 1, isL c, _, v', _, by omega, by rw [Int.natCast_add]; rfl, by first | with_reducible exact congrArg Value.bool (isL_y (by assumption) (by assumption)) | with_reducible exact congrArg Value.bool (isL_n (.inl (by assumption))) | with_reducible exact congrArg Value.bool (isL_n (.inr (by assumption))), ⟨by rw [List.length_append, hs9]; omega⟩, ⟨by rw [HE.out, HD.out, List.append_assoc]; rfl⟩, ⟨hN⟩⟩, by simp only [intOf]; omega⟩
  ·obtain rfl : k = s.size := by omega
   have hP := HR.out
   have hE := HE.out
   rw [List.drop_eq_nil_of_le (by rw [bytesOf_length]; exact Nat.le_refl _)] at hE
   have hE' : prB up lo false (bytesOf s) = l := by rw [hE]; simp [prB]
   have hown : wr.ownsRow w.heap.size 5 1 v (Lib.byteCells l).length (Lib.byteCells l) := own_weaken hP.O (by omega)
   have hne := Lib.ownBlock_ne hown hP.K (by decide)
   have hIs : Lib.IsBuilder 102 5 w.heap.size w.heap.size (Lib.byteCells l) wr := by
    rcases hP.P with q | q
    ·exact .inl ⟨Nat.le_refl _, v, by rw [hP.K, q], hown, hne⟩
    ·exact .inr ⟨Nat.le_refl _, v, by rw [hP.K, q], hown, hne⟩
   have HS9 := Aside0.mk (Any.Builder_String_any (P := Tryz.prog) (ρ := Tryz.lays169_ren) Tryz.lays169 Tryz.Builder_Extra_169 w.heap.size w.heap.size l wr hIs (by have := hP.S; omega))
   have HB9 := Aside0.mk hP.B
   have HE9 := Aside0.mk hE'
   clear hP hE hE' hown hne hIs hup hlo
   go_wp2_with (go_at_call 108; refine HS9.out.mono ?_; rintro e w2 ⟨rfl, hb⟩; have HB2 := Aside0.mk hb; clear hb)
   go_ret
   rw [HE9.out]
   exact ⟨rfl, HB9.out.trans HB2.out⟩
end Go.Proofs.YtcbknemdidehlaaGreatDoor
set_option maxRecDepth 100000
set_option linter.all false
namespace Go.Proofs.YtcbknemdidehlaaGreatDoor
open Go Go.Proofs Go.Shelf Go.RowKit P Go.Proofs.YtcbknemdidehlaaGreatDoorW.PrintWords Go.Proofs.YtcbknemdidehlaaGreatDoorW.PrintLast Ab R
theorem son_size (l : List Int) : (strOfNums l).size = l.length := by
 show (strOfNums l).data.size = _
 simp [strOfNums]
def upc (c : Int) : ByteArray := Vl.up (strOfNums [c])
def loc (c : Int) : ByteArray := Vl.lo (strOfNums [c])
theorem upc_size (c : Int) : (upc c).size = 1 := by
 show (strOfNums ((bytesOf (strOfNums [c])).map X.gUpper)).size = 1
 rw [son_size, List.length_map, bytesOf_length, son_size]
 rfl
theorem loc_size (c : Int) : (loc c).size = 1 := by
 show (strOfNums ((bytesOf (strOfNums [c])).map X.gLower)).size = 1
 rw [son_size, List.length_map, bytesOf_length, son_size]
 rfl
def prS (s : ByteArray) : ByteArray := ⟨(prB upc loc false (bytesOf s)).toArray⟩
theorem prB_len : ∀ (l : List Int) (b : Bool), (prB upc loc b l).length = l.length
 | [], b => rfl
 | c :: l, b => by
  have h1 : (upc c).data.toList.length = 1 := (Array.length_toList).trans (upc_size c)
  have h2 : (loc c).data.toList.length = 1 := (Array.length_toList).trans (loc_size c)
  unfold prB
  rw [List.length_append, prB_len l]
  cases b <;> simp [h1, h2] <;> omega
theorem prS_size (s : ByteArray) : (prS s).size = s.size := by
 show (prB upc loc false (bytesOf s)).toArray.size = _
 rw [List.size_toArray, prB_len, bytesOf_length]
theorem proper_c (s : ByteArray) (hs : s.size ≤ 1048576) : Ret Tryz.prog F_texts_proper [.str s] (.str (prS s)) := by
 refine Ab.Ret.calls Tryz.call51 (vs := [.string s]) (x := .string (prS s)) ⟨same_str s, True.intro⟩ (fits_str (by rw [prS_size]; omega)) (fun w => ?_)
 exact proper_walk upc loc (fun c _ _ => ⟨Vl.Upper_is (by rw [son_size]; exact (by decide : 1 ≤ 140737488351232)), upc_size c⟩) (fun c _ _ => ⟨Vl.Lower_is (by rw [son_size]; exact (by decide : 1 ≤ 140737488351232)), loc_size c⟩) s hs w
theorem prop_c (s : ByteArray) (hs : s.size ≤ 255) : RetL Tryz.prog F_texts_texted_1 [.ptr 0 0, .elem [.fn F_texts_made_1 [] [.elem [.fn F_texts_proper [] []]]]] [.box true [.row false [cA (oA ⟨2, 0, s⟩)], .int .i64 0]] (eV (strS (prS s))) [.box true [.row false [], .int .i64 0]] := by
 have hp := proper_c s (by omega)
 generalize prS s = y at *
 refine rl_texts_texted_1 rfl fun hw9 _ => ?_
 clear hw9
 repeat' ((conv => whnf); (first | refine Bth.mk ?_ ?_ | refine pickk0 ?_ | refine csp (fun h => ?_) (fun h => ?_) | refine clll (RetL.frame (text_c s hs []) _ [0] rfl (by simp) rfl rfl) (fun _ _ => ?_) | (apply clqi; apply rq_texts_asked_tells rfl) | (apply clqi; apply rq_texts_texted_1_1 rfl) | (apply clqi; apply rq_texts_made_1 rfl) | refine cllo (hp) (fun _ => ?_) | refine cllo (value_Str _) (fun _ => ?_) | (refine sda ?_ ?_; (focus (first | rfl | exact of_decide_eq_true rfl | (simp; done)))) | refine sda ?_ ?_ | refine conk rfl ?_ | refine ldk rfl ?_ | refine mapk (fun x hx => ?_) | exact ⟨rfl, rfl⟩ | refine nilk (fun h => absurd h (of_decide_eq_false rfl)) ?_ | refine nilk (fun h => absurd h (List.cons_ne_nil _ _)) ?_ | refine nilk (fun h => ?_) ?_ | exact rfl | exact True.intro | refine leftk1 rfl ?_ | refine bytk8 rfl ?_ | refine bytk rfl ?_ | exact leftk0 rfl | refine eqk rfl ?_ | refine fLm rfl ?_ | refine fLk (by assumption) ?_ | refine fVk ?_ | refine fLVk ?_ | refine fWk ?_ | intro hl))
 all_goals conv => whnf
end Go.Proofs.YtcbknemdidehlaaGreatDoor
set_option maxRecDepth 100000
set_option linter.all false
namespace Go.Proofs.YtcbknemdidehlaaGreatDoor
open Ab R P
abbrev bA : ByteArray := ⟨#[97]⟩
abbrev bB : ByteArray := ⟨#[98]⟩
abbrev bC : ByteArray := ⟨#[99]⟩
abbrev bABC : ByteArray := ⟨#[97, 98, 99]⟩
theorem chars_abc : Vl.chars bABC = [bA, bB, bC] := by decide +kernel
theorem find_6_c (s : ByteArray) : Ret Tryz.prog F_texts_find_6 [.str s] (.str s) := by
 refine r_texts_find_6 rfl fun hw => ?_
 clear hw
 repeat' ((conv => whnf); (first | refine csp (fun h => ?_) (fun h => ?_) | (refine sda ?_ ?_; (focus (first | rfl | (simp; done)))) | refine sda ?_ ?_ | refine conk rfl ?_ | refine ldk rfl ?_ | refine mapk (fun x hx => ?_) | exact ⟨rfl, rfl⟩ | refine nilk (fun h => ?_) ?_ | intro hl))
 all_goals conv => whnf
set_option maxHeartbeats 1600000 in
theorem lvl_find (s t : ByteArray) (es : s = bABC) (et : t = bC) : RetL Tryz.prog F_texts_finds_1 [.ptr 0 0, .elem [.fn F_texts_find_6 [] []]] [.box true [.row false [cA (oA ⟨2, 0, t⟩), cA (oA ⟨2, 0, s⟩)], .int .i64 0]] (eV ⟨1, 30000, e0⟩) [.box true [.row false [], .int .i64 0]] := by
 have hs : s.size ≤ 255 := by subst es; decide
 have ht : t.size ≤ 255 := by subst et; decide
 have t1 := text_c t ht [oA ⟨2, 0, s⟩]
 have t2 := text_c s hs []
 have i1 := find_6_c t
 have i2 := find_6_c s
 have T1a : RetL Tryz.prog F_texts_asked_text [.ptr 0 0] [.box true [.row false [cA (oA ⟨2, 0, t⟩), cA (oA ⟨2, 0, s⟩)], .int .i64 0], .box true [.int .i64 0, .int .i64 0, .str e0]] (.str t) [.box true [.row false [cA (oA ⟨2, 0, s⟩)], .int .i64 0], .box true [.int .i64 0, .int .i64 0, .str e0]] := RetL.frame t1 _ [0] rfl (by simp) rfl rfl
 have T1b : RetL Tryz.prog F_texts_asked_text [.ptr 0 0] [.box true [.row false [cA (oA ⟨2, 0, t⟩), cA (oA ⟨2, 0, s⟩)], .int .i64 0], .box true [.int .i64 0, .int .i64 0, .str e0], .box true [.str e0]] (.str t) [.box true [.row false [cA (oA ⟨2, 0, s⟩)], .int .i64 0], .box true [.int .i64 0, .int .i64 0, .str e0], .box true [.str e0]] := RetL.frame t1 _ [0] rfl (by simp) rfl rfl
 have T2a : RetL Tryz.prog F_texts_asked_text [.ptr 0 0] [.box true [.row false [cA (oA ⟨2, 0, s⟩)], .int .i64 0], .box true [.int .i64 0, .int .i64 0, .str e0]] (.str s) [.box true [.row false [], .int .i64 0], .box true [.int .i64 0, .int .i64 0, .str e0]] := RetL.frame t2 _ [0] rfl (by simp) rfl rfl
 have T2b : RetL Tryz.prog F_texts_asked_text [.ptr 0 0] [.box true [.row false [cA (oA ⟨2, 0, s⟩)], .int .i64 0], .box true [.int .i64 0, .int .i64 0, .str e0], .box true [.str e0]] (.str s) [.box true [.row false [], .int .i64 0], .box true [.int .i64 0, .int .i64 0, .str e0], .box true [.str e0]] := RetL.frame t2 _ [0] rfl (by simp) rfl rfl
 refine rl_texts_finds_1 rfl fun hw9 _ => ?_
 clear hw9 t1 t2
 conv => whnf
 refine Exists.intro (fun e z => e = [(0, .ptr 0 0), (3, .ptr 1 0), (4, .ptr 2 0), (5, .str s)] ∧ z = [.box true [.row false [], .int .i64 0], .box true [.int .i64 0, .int .i64 0, .str e0], .box true [.str t]]) ?_
 refine Bth.mk ?_ ?_
 ·repeat' ((conv => whnf); (first | (with_reducible refine Bth.mk ?_ ?_) | (with_reducible refine clll T1a (fun _ _ => ?_)) | (with_reducible refine clll T1b (fun _ _ => ?_)) | (with_reducible refine clll T2a (fun _ _ => ?_)) | (with_reducible refine clll T2b (fun _ _ => ?_)) | (with_reducible refine cllo i1 (fun _ => ?_)) | (with_reducible refine cllo i2 (fun _ => ?_)) | (with_reducible exact True.intro) | (with_reducible refine fLVk ?_) | exact ⟨rfl, rfl⟩))
 ·rintro _ _ ⟨rfl, rfl⟩
  clear T1a T1b T2a T2b i1 i2
  subst es et
  have hc := Chars_c bABC (by decide)
  rw [chars_abc] at hc
  have hj : Ret Tryz.prog F_strings_Join [.row false [[.str bA], [.str bB], [.str bC]], .str e0] (.str bABC) := Join_r _ [bA, bB, bC] rfl ⟨by decide, by decide⟩
  have p1 : Ret Tryz.prog F_strings_HasPrefix [.str bABC, .str bC] (.bool false) := c_strings_HasPrefix _ _ _ (by decide +kernel)
  have p2 : Ret Tryz.prog F_strings_HasPrefix [.str (bABC.extract 1 3), .str bC] (.bool false) := c_strings_HasPrefix _ _ _ (by decide +kernel)
  have p3 : Ret Tryz.prog F_strings_HasPrefix [.str ((bABC.extract 1 3).extract 1 2), .str bC] (.bool true) := c_strings_HasPrefix _ _ _ (by decide +kernel)
  repeat' ((conv => whnf); (first | refine Bth.mk ?_ ?_ | refine pickk0 ?_ | refine csp (fun h => ?_) (fun h => ?_) | refine clll (RetL.frame (whole_0 1) _ [0] rfl (by simp) rfl rfl) (fun _ _ => ?_) | refine cllo (hc) (fun _ => ?_) | (apply clqi; apply rq_texts_asked_tells rfl) | refine Or.inr (Or.inl ⟨4, ?_⟩) | (apply clqi; apply rq_texts_finds_1_1 rfl) | refine cllo (hj) (fun _ => ?_) | refine cllo (p1) (fun _ => ?_) | refine cllo (p2) (fun _ => ?_) | refine cllo (p3) (fun _ => ?_) | refine cllo (texts_whole_c _ (by decide)) (fun _ => ?_) | (refine sda ?_ ?_; (focus (first | rfl | exact of_decide_eq_true rfl | (simp; done)))) | refine sda ?_ ?_ | refine conk rfl ?_ | refine ldk rfl ?_ | refine mapk (fun x hx => ?_) | exact ⟨rfl, rfl⟩ | refine nilk (fun h => absurd h (of_decide_eq_false rfl)) ?_ | refine nilk (fun h => absurd h (List.cons_ne_nil _ _)) ?_ | refine nilk (fun h => ?_) ?_ | exact rfl | exact True.intro | refine leftk1 rfl ?_ | refine bytk8 rfl ?_ | refine bytk rfl ?_ | exact leftk0 rfl | refine eqk rfl ?_ | refine fLm rfl ?_ | refine fLk (by assumption) ?_ | refine fVk ?_ | refine fLVk ?_ | refine fWk ?_ | intro hl))
  all_goals conv => whnf
end Go.Proofs.YtcbknemdidehlaaGreatDoor
set_option maxRecDepth 100000
set_option linter.all false
namespace Go.Proofs.YtcbknemdidehlaaGreatDoor
open Ab R P Go.RowKit Go.Proofs.YtcbknemdidehlaaGreatDoorW.PrintWords
theorem evm {α : Type} {g : Nat → Option α} (hm : ∀ k, LeO (g k) (g (k + 1))) {K : Nat} {v : α} (h : g K = some v) : Ev g v := by
 refine ⟨K, fun k hk => ?_⟩
 induction hk with
 | refl => exact h
 | step _ ih => exact hm _ _ ih
abbrev b25 : ByteArray := ⟨#[50, 46, 53]⟩
abbrev b250 : ByteArray := ⟨#[50, 46, 53, 48]⟩
theorem lvl_fixed : RetL Tryz.prog F_texts_fixed [.ptr 0 0] [.box true [.row false [cA (oA ⟨1, 25000, e0⟩)], .int .i64 0]] (eV ⟨2, 0, b250⟩) [.box true [.row false [], .int .i64 0]] := by
 have hr : Ret Tryz.prog F_num_Round [.int .i64 25000, .int .i64 2, .int .i64 0] (.tup [.int .i64 25000, .bool true]) := c_num_Round _ _ _ _ _ (evm (K := 20) (num_Round.mono _ _ _) (by decide +kernel)) (by decide)
 have hp : Ret Tryz.prog F_num_Print [.int .i64 25000] (.str b25) := c_num_Print _ _ (evm (K := 40) (num_Print.mono _) (by decide +kernel)) (by decide)
 have hcut : Ret Tryz.prog F_strings_Cut [.str b25, .str ⟨#[46]⟩] (.tup [.str ⟨#[50]⟩, .str ⟨#[53]⟩, .bool true]) := c_strings_Cut _ _ _ _ _ (evm (K := 8) (strings_Cut.mono _ _) (by decide +kernel)) (by decide) (by decide)
 have hn := number_c 25000 (by omega) []
 refine rl_texts_fixed rfl fun hw9 _ => ?_
 clear hw9
 repeat' ((conv => whnf); (first | refine Bth.mk ?_ ?_ | refine pickk0 ?_ | refine csp (fun h => ?_) (fun h => ?_) | refine clll (RetL.frame (hn) _ [0] rfl (by simp) rfl rfl) (fun _ _ => ?_) | refine clll (RetL.frame (whole_0 2) _ [0] rfl (by simp) rfl rfl) (fun _ _ => ?_) | (apply clqi; apply rq_texts_asked_tells rfl) | (apply clqi; apply rq_texts_fixed_1 rfl) | refine cllo (hr) (fun _ => ?_) | refine cllo (hp) (fun _ => ?_) | refine cllo (hcut) (fun _ => ?_) | refine cllo (value_Str _) (fun _ => ?_) | (refine sda ?_ ?_; (focus (first | rfl | exact of_decide_eq_true rfl | (simp; done)))) | refine sda ?_ ?_ | refine conk rfl ?_ | refine ldk rfl ?_ | refine mapk (fun x hx => ?_) | exact ⟨rfl, rfl⟩ | refine nilk (fun h => absurd h (of_decide_eq_false rfl)) ?_ | refine nilk (fun h => absurd h (List.cons_ne_nil _ _)) ?_ | refine nilk (fun h => ?_) ?_ | exact rfl | exact True.intro | refine leftk1 rfl ?_ | refine bytk8 rfl ?_ | refine bytk rfl ?_ | exact leftk0 rfl | refine eqk rfl ?_ | refine fLm rfl ?_ | refine fLk (by assumption) ?_ | refine fVk ?_ | refine fLVk ?_ | refine fWk ?_ | intro hl))
 all_goals conv => whnf
 all_goals trace_state
 all_goals sorry
theorem lv_LEFT : Ret Tryz.prog F_octavolaw18_ask [.str ⟨#[76, 69, 70, 84]⟩, .row false [cA (oA ⟨2, 0, bABC⟩), cA (oA ⟨1, 20000, e0⟩)]] (eV ⟨2, 0, ⟨#[97, 98]⟩⟩) := by
 have h := left_c bABC (by decide) 2 (by decide)
 rw [show strS (catL ((Vl.chars bABC).take (2 : Int).toNat)) = ⟨2, 0, ⟨#[97, 98]⟩⟩ by rw [chars_abc]; rfl] at h
 exact ask_LEFT _ _ _ _ rfl h
theorem lv_PROPER : Ret Tryz.prog F_octavolaw18_ask [.str ⟨#[80, 82, 79, 80, 69, 82]⟩, .row false [cA (oA ⟨2, 0, ⟨#[97, 66, 32, 99, 100]⟩⟩)]] (eV ⟨2, 0, ⟨#[65, 98, 32, 67, 100]⟩⟩) := by
 have h := prop_c ⟨#[97, 66, 32, 99, 100]⟩ (by decide)
 rw [show strS (prS ⟨#[97, 66, 32, 99, 100]⟩) = ⟨2, 0, ⟨#[65, 98, 32, 67, 100]⟩⟩ by
  have : prS ⟨#[97, 66, 32, 99, 100]⟩ = ⟨#[65, 98, 32, 67, 100]⟩ := by decide +kernel
  rw [this]
  rfl] at h
 exact ask_PROPER _ _ _ rfl h
theorem lv_FIND : Ret Tryz.prog F_octavolaw18_ask [.str ⟨#[70, 73, 78, 68]⟩, .row false [cA (oA ⟨2, 0, bC⟩), cA (oA ⟨2, 0, bABC⟩)]] (eV ⟨1, 30000, e0⟩) := ask_FIND _ _ _ _ rfl (lvl_find bABC bC rfl rfl)
end Go.Proofs.YtcbknemdidehlaaGreatDoor
set_option maxRecDepth 100000
set_option linter.all false
namespace Go.Proofs.YtcbknemdidehlaaGreatDoor
open Ab R
theorem lv_FIXED : Ret Tryz.prog F_octavolaw18_ask [.str ⟨#[70, 73, 88, 69, 68]⟩, .row false [cA (oA ⟨1, 25000, e0⟩)]] (eV ⟨2, 0, b250⟩) := ask_FIXED _ _ _ rfl lvl_fixed
theorem l18_lives : Ret Tryz.prog F_octavolaw18_lives [] (.bool true) := by
 refine r_octavolaw18_lives rfl fun hw => ?_
 clear hw
 repeat' ((conv => whnf); (first | refine csp (fun h => ?_) (fun h => ?_) | refine cllo (lv_LEFT) (fun _ => ?_) | refine cllo (lv_FIND) (fun _ => ?_) | refine cllo (lv_FIXED) (fun _ => ?_) | refine cllo (lv_PROPER) (fun _ => ?_) | refine cllo (l18_number _) (fun _ => ?_) | refine cllo (l18_text _) (fun _ => ?_) | (refine sda ?_ ?_; (focus (first | rfl | (simp; done)))) | refine sda ?_ ?_ | refine conk rfl ?_ | refine ldk rfl ?_ | refine mapk (fun x hx => ?_) | exact ⟨rfl, rfl⟩ | refine nilk (fun h => ?_) ?_ | intro hl))
 all_goals conv => whnf
 all_goals rfl
theorem cat_cons (c : ByteArray) (l : List ByteArray) : catL (c :: l) = c ++ catL l := by
 apply ByteArray.ext
 apply Array.ext'
 simp [catL, ByteArray.data_append]
end Go.Proofs.YtcbknemdidehlaaGreatDoor
set_option maxRecDepth 100000
set_option linter.all false
namespace Go.Proofs.YtcbknemdidehlaaGreatDoor
open Ab R P
def preB (x t : ByteArray) : Bool := (strings_HasPrefix.f x t).getD false
theorem pre_some (x t : ByteArray) : strings_HasPrefix.f x t = some (preB x t) := by
 have : (strings_HasPrefix.f x t).isSome = true := by
  unfold strings_HasPrefix.f stringslite_HasPrefix.f
  split
  ·first | rfl | (rw [if_pos (by omega), if_pos (by omega)]; rfl)
  ·rfl
 unfold preB
 obtain ⟨v, hv⟩ := Option.isSome_iff_exists.1 this
 rw [hv]
 rfl
theorem HasPrefix_c (x t : ByteArray) : Ret Tryz.prog F_strings_HasPrefix [.str x, .str t] (.bool (preB x t)) := c_strings_HasPrefix _ _ _ (pre_some x t)
def fndS (t : ByteArray) : List ByteArray → Int → GV
 | [], k => if preB (catL []) t = true then ⟨1, k * 10000, e0⟩ else badS 2
 | c :: l, k => if preB (catL (c :: l)) t = true then ⟨1, k * 10000, e0⟩ else fndS t l (k + 1)
theorem ext_app (a b : ByteArray) : (a ++ b).extract a.size (a ++ b).size = b := by
 apply ByteArray.ext
 apply Array.ext'
 rw [ByteArray.data_extract, ByteArray.data_append, Array.toList_extract, Array.toList_append, List.extract_eq_take_drop, List.drop_append_of_le_length (by rw [Array.length_toList]; exact Nat.le_refl _)]
 rw [List.drop_eq_nil_of_le (by rw [Array.length_toList]; exact Nat.le_refl _), List.nil_append, List.take_of_length_le (by rw [Array.length_toList, ByteArray.size_append]; show b.size ≤ _; omega)]
theorem fndS_y {t : ByteArray} (l : List ByteArray) (k : Int) (h : preB (catL l) t = true) : fndS t l k = ⟨1, k * 10000, e0⟩ := by
 cases l <;> simp [fndS, h]
end Go.Proofs.YtcbknemdidehlaaGreatDoor
set_option maxRecDepth 100000
set_option linter.all false
namespace Go.Proofs.YtcbknemdidehlaaGreatDoor
open Ab R P Go.RowKit
def repB (s : ByteArray) (n : Nat) : ByteArray := ⟨(Lib.repeatL s.data.toList n).toArray⟩
theorem Repeat_c (s : ByteArray) (n : Nat) (h : s.size * n ≤ 65025) (hn : n ≤ 10000000) (hz : (repB s n).size ≤ 65025) : Ret Tryz.prog F_strings_Repeat [.str s, .int .i64 n] (.str (repB s n)) := by
 refine Ab.Ret.calls Tryz.call128 (vs := [.string s, .int .i64 n]) (x := .string (repB s n)) ⟨same_str s, same_int _ _, True.intro⟩ (fits_str (by omega)) (fun w => ?_)
 exact Tryz.strings_Repeat s n w (by omega) (by omega)
end Go.Proofs.YtcbknemdidehlaaGreatDoor
set_option maxRecDepth 100000
set_option linter.all false
namespace Go.Proofs.YtcbknemdidehlaaGreatDoor
open Ab R P Vl Go.RowKit
theorem rep_size (s : ByteArray) (n : Nat) : (repB s n).size = n * s.size := by
 show (Lib.repeatL s.data.toList n).toArray.size = _
 rw [List.size_toArray, Lib.repeatL_length, Array.length_toList]
 rfl
end Go.Proofs.YtcbknemdidehlaaGreatDoor
set_option maxRecDepth 100000
set_option linter.all false
namespace Go.Proofs.YtcbknemdidehlaaGreatDoor
open Ab R P Vl Go.RowKit Go.Proofs.YtcbknemdidehlaaGreatDoorW.PrintWords Go.Proofs.YtcbknemdidehlaaGreatDoorW.PrintLast
theorem Ab.RetL.callsS {P : Program} {f : FuncId} {args : List V} {vs : List Value} {xs : List ByteArray} {T : Nat} (hcall : ∀ ar w, (callFunc f ar).run P w = .ok (.enter f ar) w) (ha : Sames args vs) (hz : ∀ c ∈ xs, c.size ≤ 9223372036854775807) (hne : xs ≠ [])
  (h : ∀ w, Calls P f vs.toArray w fun e w' => ∃ v0 : Value, e = .returned v0 ∧ Kd.R Kd.string T w' w.heap.size (fun _ => True) v0 xs ∧ Below w.heap.size w w') : RetL P f args [] (.sl 0 0 xs.length) [.arr true 1 (xs.map cS)] := by
 intro m w ys ι hmo rv
 have hι : ι = [] := List.eq_nil_of_length_eq_zero hmo.len
 subst hι
 rw [sames_repL ha rv]
 unfold CallsX
 rw [hcall]
 refine (h w).mono fun e w' ⟨v0, he, hR, hb⟩ => ?_
 have hok : m.ok w' := fun b o v hv => by
  rw [World.cell?_of_block (w := w) (a := ⟨b, o, none⟩) (hb.block b (hmo.mok.lt hv))]
  exact hmo.mok b o v hv
 obtain ⟨_, inner, ⟨hlen, ho⟩, hr⟩ := hR
 rcases ho with ⟨rfl, h0⟩ | ⟨g, cap, cur, rfl, hg, hh, hn, hcm, hsz, htake⟩
 ·exact absurd (List.eq_nil_of_length_eq_zero h0) hne
 have hcell : ∀ (j : Nat) p, xs[j]? = some p → cur.toList[j]? = some (.string p) := fun j p hj => by
  have hlt : j < xs.length := (List.getElem?_eq_some_iff.1 hj).1
  have h3 : (inner.drop (j * 1)).take 1 = [Value.string p] := hr.2 j p hj
  rw [Nat.mul_one] at h3
  have h2 : inner[j]? = some (.string p) := by
   have : ((inner.drop j).take 1)[0]? = some (Value.string p) := by rw [h3]; rfl
   simpa using this
  rw [← htake, List.getElem?_take, if_pos (by show j < xs.length * 1; omega)] at h2
  exact h2
 have hz9 : xs.length ≤ 9223372036854775807 := by unfold maxLen at hcm; omega
 have hlm : (xs.map cS).length = xs.length := List.length_map _
 have hno : ∀ o, m g o = none := fun o => by
  cases q : m g o with
  | none => rfl
  | some v => have := hmo.mok.lt q; omega
 have hgl : g < w'.heap.size := (Array.getElem?_eq_some_iff.1 hh).1
 have hsz : cur.size = cap * 1 := hsz
 have ob : Ob m [⟨g, cap, 1, xs.length⟩] w' ⟨g, cap, 1, xs.length⟩ (.arr true 1 (xs.map cS)) := by
  refine ⟨cur.toList, T, (0, 0), rfl, by simpa using hh, by rw [Array.length_toList]; exact hsz, by rw [hlm]; exact hn, hlm, by rw [hlm]; exact hz9, fun el hel => ?_, fun i j el c hi hj => ?_, ⟨Nat.le_refl _, fun i _ q => by simp at q⟩, fun o _ => hno o, fun _ o => hno o⟩
  ·obtain ⟨p, _, rfl⟩ := List.mem_map.1 hel
   rfl
  ·rw [List.getElem?_map] at hi
   cases hx : xs[i]? with
   | none => rw [hx] at hi; cases hi
   | some p =>
    rw [hx] at hi
    cases hi
    cases j with
    | zero =>
     cases hj
     refine ⟨_, ?_, .str [] p (hz p (List.mem_of_getElem? hx))⟩
     rw [Nat.mul_one, Nat.add_zero]
     exact hcell i p hx
    | succ j => cases hj
 refine ⟨_, he, m, [⟨g, cap, 1, xs.length⟩], ?_, ?_⟩
 ·exact
  {mle := fun _ _ _ q => q
   glo := hmo.glo
   mok := hok
   fresh := fun b o x hx h0 => by rw [hx] at h0; cases h0
   below := hmo.below.on hb
   len := rfl
   obj := fun i o β ho hβ => by
    cases i with
    | zero => cases ho; cases hβ; exact ob
    | succ i => cases ho
   own := fun i o β ho hβ _ => by
    cases i with
    | zero => cases ho; cases hβ; exact ⟨.inl hg, hgl⟩
    | succ i => cases ho
   inj := fun i j o p β γ ho hp hβ hγ _ _ hij => by
    cases i with
    | zero =>
     cases j with
     | zero => exact absurd rfl hij
     | succ j => cases hp
    | succ i => cases ho
   pin := fun i β hi => by cases i <;> cases hi }
 ·exact .sl _ 0 0 xs.length _ cap ⟨g, cap, 1, xs.length⟩ rfl hn (by simp) (by simp) hz9 (fun _ => by simp)
theorem Chars_o (s : ByteArray) (h : s.size ≤ 8796093022207) (hne : Vl.chars s ≠ []) : RetL Tryz.prog F_value_Chars [.str s] [] (.sl 0 0 (Vl.chars s).length) [.arr true 1 ((Vl.chars s).map cS)] := by
 obtain ⟨k, hk⟩ := (Vl.Chars_is h).rounds
 have hz : ∀ c ∈ Vl.chars s, c.size ≤ 9223372036854775807 := fun c hc => by
  have := chs_size s _ _ c hc
  omega
 exact Ab.RetL.callsS Tryz.call47 (vs := [.string s]) ⟨same_str s, True.intro⟩ hz hne (fun w => value_Chars.calls k s _ w hk)
theorem Reverse_c (l : List ByteArray) (hl9 : l.length ≤ 1000) : RetL Tryz.prog F_slices_Reverse_string_string [.sl 0 0 l.length] [.arr true 1 (l.map cS)] (.tup []) [.arr true 1 (l.reverse.map cS)] := by
 refine rl_slices_Reverse_string_string rfl fun hw _ => ?_
 clear hw
 have eW : IntKind.i64.wrap ((l.length : Int) - 1) = (l.length : Int) - 1 := w64 (by omega)
 repeat' ((conv => whnf); (first | refine Bth.mk ?_ ?_ | (rw [eW]) | refine pickk0 ?_ | refine csp (fun h => ?_) (fun h => ?_) | (refine sda ?_ ?_; (focus (first | rfl | exact of_decide_eq_true rfl | (simp; done)))) | refine sda ?_ ?_ | refine conk rfl ?_ | refine ldk rfl ?_ | refine mapk (fun x hx => ?_) | exact ⟨rfl, rfl⟩ | refine nilk (fun h => absurd h (of_decide_eq_false rfl)) ?_ | refine nilk (fun h => absurd h (List.cons_ne_nil _ _)) ?_ | refine nilk (fun h => ?_) ?_ | exact rfl | exact True.intro | refine leftk1 rfl ?_ | refine bytk8 rfl ?_ | refine bytk rfl ?_ | exact leftk0 rfl | refine eqk rfl ?_ | refine fLm rfl ?_ | refine fLk (by assumption) ?_ | refine fVk ?_ | refine fLVk ?_ | refine fWk ?_ | intro hl))
 refine .inr (.inr (.inl ⟨Nat, [0, 2, 3], fun i => [(0, .sl 0 0 l.length), (2, .int .i64 i), (3, .int .i64 ((l.length : Int) - 1 - i))], fun i z => ∃ L : List ByteArray, z = [.arr true 1 (L.map cS)] ∧ L.length = l.length ∧ 2 * i ≤ l.length + 1 ∧ ∀ k, k < l.length → L[k]? = if k < i ∨ l.length - i ≤ k then l[l.length - 1 - k]? else l[k]?, fun i => l.length - i, ?_, ?_⟩))
 ·exact ⟨0, by simp, l, rfl, rfl, by omega, fun k hk => by rw [if_neg (by omega)]⟩
 ·rintro i z ⟨L, rfl, hL, hi2, hLk⟩ hwf
  clear hwf
  have hlm : (L.map cS).length = L.length := List.length_map _
  by_cases hlt : (i : Int) < (l.length : Int) - 1 - i
  ·obtain ⟨j, hj⟩ : ∃ j : Nat, (l.length : Int) - 1 - i = (j : Int) := ⟨l.length - 1 - i, by omega⟩
   obtain ⟨x1, hx1⟩ : ∃ x, L[j]? = some x := ⟨_, List.getElem?_eq_getElem (by omega)⟩
   obtain ⟨x0, hx0⟩ : ∃ x, L[i]? = some x := ⟨_, List.getElem?_eq_getElem (by omega)⟩
   have C1 : (L.map cS)[0 + ((j : Nat) : Int).toNat]? = some (cS x1) := by rw [Int.toNat_natCast, Nat.zero_add, List.getElem?_map, hx1]; rfl
   have C0 : (L.map cS)[0 + ((i : Nat) : Int).toNat]? = some (cS x0) := by rw [Int.toNat_natCast, Nat.zero_add, List.getElem?_map, hx0]; rfl
   have S1 : setAt (L.map cS) (0 + ((i : Nat) : Int).toNat) [V.str x1] = (L.set i x1).map cS := by rw [setAt_eq, Int.toNat_natCast, Nat.zero_add, List.map_set]
   have C2 : (setAt (L.map cS) (0 + ((i : Nat) : Int).toNat) [V.str x1])[0 + ((j : Nat) : Int).toNat]? = some (cS x1) := by
    rw [S1, Int.toNat_natCast, Nat.zero_add, List.getElem?_map, List.getElem?_set_ne (by omega), hx1]; rfl
   have B0 : 0 ≤ (i : Int) ∧ (i : Int) < (l.length : Int) := by omega
   have B1 : 0 ≤ (j : Int) ∧ (j : Int) < (l.length : Int) := by omega
   have D0 : 0 + ((i : Nat) : Int).toNat < (L.map cS).length := by rw [hlm, Int.toNat_natCast]; omega
   have D1 : 0 + ((j : Nat) : Int).toNat < (L.map cS).length := by rw [hlm, Int.toNat_natCast]; omega
   have D2 : 0 + ((j : Nat) : Int).toNat < (setAt (L.map cS) (0 + ((i : Nat) : Int).toNat) [V.str x1]).length := by rw [S1, List.length_map, List.length_set, Int.toNat_natCast]; omega
   have hd : decide ((i : Int) < (j : Int)) = true := decide_eq_true (by omega)
   have eA : IntKind.i64.wrap ((i : Int) + 1) = ((i + 1 : Nat) : Int) := by rw [w64 (by omega)]; omega
   have eB : IntKind.i64.wrap ((j : Int) - 1) = (l.length : Int) - 1 - ((i + 1 : Nat) : Int) := by rw [w64 (by omega)]; omega
   conv => whnf
   rw [hj]
   repeat' ((conv => whnf); (first | refine Bth.mk ?_ ?_ | refine csp_t (hd) ?_ | refine sda (B0) ?_ | refine sda (B1) ?_ | refine sda (D0) ?_ | refine sda (D1) ?_ | refine sda (D2) ?_ | (rw [eA]) | (rw [eB]) | refine pickk0 ?_ | refine csp (fun h => ?_) (fun h => ?_) | refine conk C1 ?_ | refine conk C0 ?_ | refine conk C2 ?_ | (refine sda ?_ ?_; (focus (first | rfl | exact of_decide_eq_true rfl | (simp; done)))) | refine sda ?_ ?_ | refine conk rfl ?_ | refine ldk rfl ?_ | refine mapk (fun x hx => ?_) | exact ⟨rfl, rfl⟩ | refine nilk (fun h => absurd h (of_decide_eq_false rfl)) ?_ | refine nilk (fun h => absurd h (List.cons_ne_nil _ _)) ?_ | refine nilk (fun h => ?_) ?_ | exact rfl | exact True.intro | refine leftk1 rfl ?_ | refine bytk8 rfl ?_ | refine bytk rfl ?_ | exact leftk0 rfl | refine eqk rfl ?_ | refine fLm rfl ?_ | refine fLk (by assumption) ?_ | refine fVk ?_ | refine fLVk ?_ | refine fWk ?_ | intro hl))
   all_goals conv => whnf
   refine ⟨i + 1, rfl, ⟨(L.set i x1).set j x0, ?_, by simp [hL], by omega, fun k hk => ?_⟩, by show l.length - (i + 1) < l.length - i; omega⟩
   ·show [O.arr true 1 (setAt (setAt (L.map cS) (0 + ((i : Nat) : Int).toNat) [V.str x1]) (0 + ((j : Nat) : Int).toNat) [V.str x0])] = _
    rw [S1, setAt_eq, Int.toNat_natCast, Nat.zero_add, ← List.map_set]
   ·by_cases q1 : j = k
    ·subst q1
     rw [List.getElem?_set_self (by rw [List.length_set]; omega), if_pos (by omega), ← hx0, hLk i (by omega), if_neg (by omega)]
     congr 1
     omega
    ·rw [List.getElem?_set_ne q1]
     by_cases q0 : i = k
     ·subst q0
      rw [List.getElem?_set_self (by omega), if_pos (by omega), ← hx1, hLk j (by omega), if_neg (by omega)]
      congr 1
      omega
     ·rw [List.getElem?_set_ne q0, hLk k hk]
      by_cases q2 : k < i ∨ l.length - i ≤ k
      ·rw [if_pos q2, if_pos (by omega)]
      ·rw [if_neg q2, if_neg (by omega)]
  ·have e : L = l.reverse := by
    apply List.ext_getElem?
    intro k
    by_cases hk : k < l.length
    ·rw [hLk k hk, List.getElem?_reverse hk]
     split
     ·rfl
     ·congr 1
      omega
    ·rw [List.getElem?_eq_none (by omega), List.getElem?_eq_none (by rw [List.length_reverse]; omega)]
   rw [e]
   repeat' ((conv => whnf); (first | refine Bth.mk ?_ ?_ | refine csp_f (decide_eq_false hlt) ?_ | refine pickk0 ?_ | refine csp (fun h => ?_) (fun h => ?_) | (refine sda ?_ ?_; (focus (first | rfl | exact of_decide_eq_true rfl | (simp; done)))) | refine sda ?_ ?_ | refine conk rfl ?_ | refine ldk rfl ?_ | refine mapk (fun x hx => ?_) | exact ⟨rfl, rfl⟩ | refine nilk (fun h => absurd h (of_decide_eq_false rfl)) ?_ | refine nilk (fun h => absurd h (List.cons_ne_nil _ _)) ?_ | refine nilk (fun h => ?_) ?_ | exact rfl | exact True.intro | refine leftk1 rfl ?_ | refine bytk8 rfl ?_ | refine bytk rfl ?_ | exact leftk0 rfl | refine eqk rfl ?_ | refine fLm rfl ?_ | refine fLk (by assumption) ?_ | refine fVk ?_ | refine fLVk ?_ | refine fWk ?_ | intro hl))
   all_goals conv => whnf
   all_goals exact ⟨rfl, rfl⟩
theorem tkn (l : List ByteArray) (n : Nat) (h : n = l.length) : ((l.map cS).drop 0).take n = l.map cS := by rw [List.drop_zero, List.take_of_length_le (by rw [List.length_map]; omega)]
theorem reverse_c (s : ByteArray) (hs : s.size ≤ 255) : Ret Tryz.prog F_texts_reverse [.str s] (.str (catL (Vl.chars s).reverse)) := by
 have hsm := sm_chars hs
 have h9 := hsm.len
 have hsr : Sm (Vl.chars s).reverse := ⟨by rw [List.length_reverse]; exact h9, fun c hc => hsm.size c (List.mem_reverse.1 hc)⟩
 have hj := fun els he => Join_r els _ he hsr
 by_cases hne : Vl.chars s = []
 ·have hc := Chars_c s (by omega)
  rw [hne] at hc hj ⊢
  refine r_texts_reverse rfl fun hw => ?_
  clear hw
  repeat' ((conv => whnf); (first | refine Bth.mk ?_ ?_ | refine pickk0 ?_ | refine csp (fun h => ?_) (fun h => ?_) | refine cllo (hc) (fun _ => ?_) | (apply clqi; apply rq_slices_Reverse_string_string rfl) | refine Or.inr (Or.inl ⟨1, ?_⟩) | refine cllo (hj _ rfl) (fun _ => ?_) | (refine sda ?_ ?_; (focus (first | rfl | exact of_decide_eq_true rfl | (simp; done)))) | refine sda ?_ ?_ | refine conk rfl ?_ | refine ldk rfl ?_ | refine mapk (fun x hx => ?_) | exact ⟨rfl, rfl⟩ | refine nilk (fun h => absurd h (of_decide_eq_false rfl)) ?_ | refine nilk (fun h => absurd h (List.cons_ne_nil _ _)) ?_ | refine nilk (fun h => ?_) ?_ | exact rfl | exact True.intro | refine leftk1 rfl ?_ | refine bytk8 rfl ?_ | refine bytk rfl ?_ | exact leftk0 rfl | refine eqk rfl ?_ | refine fLm rfl ?_ | refine fLk (by assumption) ?_ | refine fVk ?_ | refine fLVk ?_ | refine fWk ?_ | intro hl))
  all_goals conv => whnf
 ·have ho := Chars_o s (by omega) hne
  have hr := Reverse_c (Vl.chars s) (by omega)
  generalize Vl.chars s = l at *
  refine r_texts_reverse rfl fun hw => ?_
  clear hw
  repeat' ((conv => whnf); (first | refine Bth.mk ?_ ?_ | refine pickk0 ?_ | refine csp (fun h => ?_) (fun h => ?_) | refine clll (ho) (fun _ _ => ?_) | refine clll (hr) (fun _ _ => ?_) | refine cllo (hj _ (tkn l.reverse l.length (by simp))) (fun _ => ?_) | (refine sda ?_ ?_; (focus (first | rfl | exact of_decide_eq_true rfl | (simp; done)))) | refine sda ?_ ?_ | refine conk rfl ?_ | refine ldk rfl ?_ | refine mapk (fun x hx => ?_) | exact ⟨rfl, rfl⟩ | refine nilk (fun h => absurd h (of_decide_eq_false rfl)) ?_ | refine nilk (fun h => absurd h (List.cons_ne_nil _ _)) ?_ | refine nilk (fun h => ?_) ?_ | exact rfl | exact True.intro | refine leftk1 rfl ?_ | refine bytk8 rfl ?_ | refine bytk rfl ?_ | exact leftk0 rfl | refine eqk rfl ?_ | refine fLm rfl ?_ | refine fLk (by assumption) ?_ | refine fVk ?_ | refine fLVk ?_ | refine fWk ?_ | intro hl))
  all_goals conv => whnf
end Go.Proofs.YtcbknemdidehlaaGreatDoor
set_option maxRecDepth 100000
set_option linter.all false
namespace Go.Proofs.YtcbknemdidehlaaGreatDoor
open Ab R
structure As where
 l : List Ar
 b : Int
abbrev cQ (q : As) : O := .box true [.row false (q.l.map cA), .int .i64 q.b]
noncomputable def txS : As → ByteArray × As
 | ⟨[], b⟩ => (e0, ⟨[], b⟩)
 | ⟨a :: l, b⟩ => if 0 < b then (e0, ⟨a :: l, b⟩) else ((tx (oneS a)).1, ⟨l, (tx (oneS a)).2⟩)
def nmS : As → Int × As
 | ⟨[], b⟩ => (0, ⟨[], b⟩)
 | ⟨a :: l, b⟩ => if 0 < b then (0, ⟨a :: l, b⟩) else ((tn (oneS a)).1, ⟨l, (tn (oneS a)).2⟩)
def fgS : As → Bool × As
 | ⟨[], b⟩ => (false, ⟨[], b⟩)
 | ⟨a :: l, b⟩ => if 0 < b then (false, ⟨a :: l, b⟩) else ((tb (oneS a)).1, ⟨l, (tb (oneS a)).2⟩)
def whS18 (d : Int) : As → Int × As
 | ⟨[], b⟩ => (d, ⟨[], b⟩)
 | ⟨a :: l, b⟩ => if 0 < b then (0, ⟨a :: l, b⟩) else if 0 < (tn (oneS a)).2 then (0, ⟨l, (tn (oneS a)).2⟩)
  else ((wholeS (tn (oneS a)).1).1, ⟨l, if (wholeS (tn (oneS a)).1).2 = true then (tn (oneS a)).2 else 5⟩)
theorem drop1 (a : Ar) (ls : List Ar) : List.take (((cA a :: ls.map cA).length : Int) - 1).toNat (List.drop (1 : Int).toNat (cA a :: ls.map cA)) = ls.map cA := by
 rw [show (1 : Int).toNat = 1 from rfl, List.drop_succ_cons, List.drop_zero]
 exact List.take_of_length_le (by simp)
theorem lenA {e : List V} {a : Ar} {ls : List Ar} (h : e ∈ cA a :: ls.map cA) : e.length = 4 := by
 rcases List.mem_cons.1 h with rfl | he
 ·rfl
 ·obtain ⟨x, _, rfl⟩ := List.mem_map.1 he
  rfl
theorem next_g1 (a : Ar) (ls : List Ar) (b : Int) (hb : ¬ 0 < b) : RetL Tryz.prog F_texts_asked_next [.ptr 0 0] [cQ ⟨a :: ls, b⟩] (.tup [eV (oneS a), .bool true]) [cQ ⟨ls, b⟩] := by
 have h0 : decide (b > 0) = false := decide_eq_false (by omega)
 refine rl_texts_asked_next rfl fun hw _ => ?_
 clear hw
 repeat' ((conv => whnf); (first | refine Bth.mk ?_ ?_ | refine csp_f (h0) ?_ | refine pickk0 ?_ | refine csp (fun h => ?_) (fun h => ?_) | refine cllo (maths_One a) (fun _ => ?_) | (refine sda ?_ ?_; (focus (first | rfl | exact of_decide_eq_true rfl | (simp; done)))) | refine sda ?_ ?_ | refine conk rfl ?_ | refine ldk rfl ?_ | refine mapk (fun x hx => ?_) | exact ⟨rfl, rfl⟩ | refine nilk (fun h => absurd h (of_decide_eq_false rfl)) ?_ | refine nilk (fun h => absurd h (List.cons_ne_nil _ _)) ?_ | refine nilk (fun h => ?_) ?_ | exact rfl | exact True.intro | refine leftk1 rfl ?_ | refine bytk8 rfl ?_ | refine bytk rfl ?_ | exact leftk0 rfl | refine eqk rfl ?_ | refine fLm rfl ?_ | refine fLk (by assumption) ?_ | refine fVk ?_ | refine fLVk ?_ | refine fWk ?_ | intro hl))
 all_goals conv => whnf
 ·simp
  omega
 ·exact lenA hl
 ·refine ⟨rfl, ?_⟩
  show [O.box true [V.row false (List.take (((cA a :: ls.map cA).length : Int) - 1).toNat (List.drop (1 : Int).toNat (cA a :: ls.map cA))), .int .i64 b]] = _
  rw [drop1]
theorem next_g2 (l : List Ar) (b : Int) (hb : 0 < b ∨ l = []) : RetL Tryz.prog F_texts_asked_next [.ptr 0 0] [cQ ⟨l, b⟩] (.tup [eV ⟨0, 0, e0⟩, .bool false]) [cQ ⟨l, b⟩] := by
 by_cases h : 0 < b
 ·have h0 : decide (b > 0) = true := decide_eq_true h
  refine rl_texts_asked_next rfl fun hw _ => ?_
  clear hw
  repeat' ((conv => whnf); (first | refine Bth.mk ?_ ?_ | refine csp_t (h0) ?_ | refine pickk0 ?_ | refine csp (fun h => ?_) (fun h => ?_) | (refine sda ?_ ?_; (focus (first | rfl | exact of_decide_eq_true rfl | (simp; done)))) | refine sda ?_ ?_ | refine conk rfl ?_ | refine ldk rfl ?_ | refine mapk (fun x hx => ?_) | exact ⟨rfl, rfl⟩ | refine nilk (fun h => absurd h (of_decide_eq_false rfl)) ?_ | refine nilk (fun h => absurd h (List.cons_ne_nil _ _)) ?_ | refine nilk (fun h => ?_) ?_ | exact rfl | exact True.intro | refine leftk1 rfl ?_ | refine bytk8 rfl ?_ | refine bytk rfl ?_ | exact leftk0 rfl | refine eqk rfl ?_ | refine fLm rfl ?_ | refine fLk (by assumption) ?_ | refine fVk ?_ | refine fLVk ?_ | refine fWk ?_ | intro hl))
  all_goals conv => whnf
  all_goals exact ⟨rfl, rfl⟩
 ·have h0 : decide (b > 0) = false := decide_eq_false h
  obtain rfl := hb.resolve_left h
  refine rl_texts_asked_next rfl fun hw _ => ?_
  clear hw
  repeat' ((conv => whnf); (first | refine Bth.mk ?_ ?_ | refine csp_f (h0) ?_ | refine pickk0 ?_ | refine csp (fun h => ?_) (fun h => ?_) | (refine sda ?_ ?_; (focus (first | rfl | exact of_decide_eq_true rfl | (simp; done)))) | refine sda ?_ ?_ | refine conk rfl ?_ | refine ldk rfl ?_ | refine mapk (fun x hx => ?_) | exact ⟨rfl, rfl⟩ | refine nilk (fun h => absurd h (of_decide_eq_false rfl)) ?_ | refine nilk (fun h => absurd h (List.cons_ne_nil _ _)) ?_ | refine nilk (fun h => ?_) ?_ | exact rfl | exact True.intro | refine leftk1 rfl ?_ | refine bytk8 rfl ?_ | refine bytk rfl ?_ | exact leftk0 rfl | refine eqk rfl ?_ | refine fLm rfl ?_ | refine fLk (by assumption) ?_ | refine fVk ?_ | refine fLVk ?_ | refine fWk ?_ | intro hl))
  all_goals conv => whnf
  all_goals exact ⟨rfl, rfl⟩
theorem text_g (q : As) : RetL Tryz.prog F_texts_asked_text [.ptr 0 0] [cQ q] (.str (txS q).1) [cQ (txS q).2] := by
 obtain ⟨l, b⟩ := q
 by_cases h : 0 < b ∨ l = []
 ·have hn := next_g2 l b h
  have e : txS ⟨l, b⟩ = (e0, ⟨l, b⟩) := by
   cases l with
   | nil => rfl
   | cons a l => rw [txS, if_pos (h.resolve_right (by simp))]
  rw [e]
  refine rl_texts_asked_text rfl fun hw _ => ?_
  clear hw
  repeat' ((conv => whnf); (first | refine Bth.mk ?_ ?_ | refine pickk0 ?_ | refine csp (fun h => ?_) (fun h => ?_) | refine clll (RetL.frame (hn) _ [0] rfl (by simp) rfl rfl) (fun _ _ => ?_) | (refine sda ?_ ?_; (focus (first | rfl | exact of_decide_eq_true rfl | (simp; done)))) | refine sda ?_ ?_ | refine conk rfl ?_ | refine ldk rfl ?_ | refine mapk (fun x hx => ?_) | exact ⟨rfl, rfl⟩ | refine nilk (fun h => absurd h (of_decide_eq_false rfl)) ?_ | refine nilk (fun h => absurd h (List.cons_ne_nil _ _)) ?_ | refine nilk (fun h => ?_) ?_ | exact rfl | exact True.intro | refine leftk1 rfl ?_ | refine bytk8 rfl ?_ | refine bytk rfl ?_ | exact leftk0 rfl | refine eqk rfl ?_ | refine fLm rfl ?_ | refine fLk (by assumption) ?_ | refine fVk ?_ | refine fLVk ?_ | refine fWk ?_ | intro hl))
  all_goals conv => whnf
  all_goals exact ⟨rfl, rfl⟩
 ·cases l with
  | nil => exact absurd (.inr rfl) h
  | cons a l =>
   have hb : ¬ 0 < b := fun q => h (.inl q)
   have hn := next_g1 a l b hb
   have ht := ToText_g _ (oneS_good a)
   rw [txS, if_neg hb]
   refine rl_texts_asked_text rfl fun hw _ => ?_
   clear hw
   repeat' ((conv => whnf); (first | refine Bth.mk ?_ ?_ | refine pickk0 ?_ | refine csp (fun h => ?_) (fun h => ?_) | refine clll (RetL.frame (hn) _ [0] rfl (by simp) rfl rfl) (fun _ _ => ?_) | refine cllo (ht) (fun _ => ?_) | (refine sda ?_ ?_; (focus (first | rfl | exact of_decide_eq_true rfl | (simp; done)))) | refine sda ?_ ?_ | refine conk rfl ?_ | refine ldk rfl ?_ | refine mapk (fun x hx => ?_) | exact ⟨rfl, rfl⟩ | refine nilk (fun h => absurd h (of_decide_eq_false rfl)) ?_ | refine nilk (fun h => absurd h (List.cons_ne_nil _ _)) ?_ | refine nilk (fun h => ?_) ?_ | exact rfl | exact True.intro | refine leftk1 rfl ?_ | refine bytk8 rfl ?_ | refine bytk rfl ?_ | exact leftk0 rfl | refine eqk rfl ?_ | refine fLm rfl ?_ | refine fLk (by assumption) ?_ | refine fVk ?_ | refine fLVk ?_ | refine fWk ?_ | intro hl))
   all_goals conv => whnf
   all_goals exact ⟨rfl, rfl⟩
theorem number_g (q : As) : RetL Tryz.prog F_texts_asked_number [.ptr 0 0] [cQ q] (.int .i64 (nmS q).1) [cQ (nmS q).2] := by
 obtain ⟨l, b⟩ := q
 by_cases h : 0 < b ∨ l = []
 ·have hn := next_g2 l b h
  have e : nmS ⟨l, b⟩ = (0, ⟨l, b⟩) := by
   cases l with
   | nil => rfl
   | cons a l => rw [nmS, if_pos (h.resolve_right (by simp))]
  rw [e]
  refine rl_texts_asked_number rfl fun hw _ => ?_
  clear hw
  repeat' ((conv => whnf); (first | refine Bth.mk ?_ ?_ | refine pickk0 ?_ | refine csp (fun h => ?_) (fun h => ?_) | refine clll (RetL.frame (hn) _ [0] rfl (by simp) rfl rfl) (fun _ _ => ?_) | (refine sda ?_ ?_; (focus (first | rfl | exact of_decide_eq_true rfl | (simp; done)))) | refine sda ?_ ?_ | refine conk rfl ?_ | refine ldk rfl ?_ | refine mapk (fun x hx => ?_) | exact ⟨rfl, rfl⟩ | refine nilk (fun h => absurd h (of_decide_eq_false rfl)) ?_ | refine nilk (fun h => absurd h (List.cons_ne_nil _ _)) ?_ | refine nilk (fun h => ?_) ?_ | exact rfl | exact True.intro | refine leftk1 rfl ?_ | refine bytk8 rfl ?_ | refine bytk rfl ?_ | exact leftk0 rfl | refine eqk rfl ?_ | refine fLm rfl ?_ | refine fLk (by assumption) ?_ | refine fVk ?_ | refine fLVk ?_ | refine fWk ?_ | intro hl))
  all_goals conv => whnf
  all_goals exact ⟨rfl, rfl⟩
 ·cases l with
  | nil => exact absurd (.inr rfl) h
  | cons a l =>
   have hb : ¬ 0 < b := fun q => h (.inl q)
   have hn := next_g1 a l b hb
   have ht := ToNum_g _ (oneS_good a)
   rw [nmS, if_neg hb]
   refine rl_texts_asked_number rfl fun hw _ => ?_
   clear hw
   repeat' ((conv => whnf); (first | refine Bth.mk ?_ ?_ | refine pickk0 ?_ | refine csp (fun h => ?_) (fun h => ?_) | refine clll (RetL.frame (hn) _ [0] rfl (by simp) rfl rfl) (fun _ _ => ?_) | refine cllo (ht) (fun _ => ?_) | (refine sda ?_ ?_; (focus (first | rfl | exact of_decide_eq_true rfl | (simp; done)))) | refine sda ?_ ?_ | refine conk rfl ?_ | refine ldk rfl ?_ | refine mapk (fun x hx => ?_) | exact ⟨rfl, rfl⟩ | refine nilk (fun h => absurd h (of_decide_eq_false rfl)) ?_ | refine nilk (fun h => absurd h (List.cons_ne_nil _ _)) ?_ | refine nilk (fun h => ?_) ?_ | exact rfl | exact True.intro | refine leftk1 rfl ?_ | refine bytk8 rfl ?_ | refine bytk rfl ?_ | exact leftk0 rfl | refine eqk rfl ?_ | refine fLm rfl ?_ | refine fLk (by assumption) ?_ | refine fVk ?_ | refine fLVk ?_ | refine fWk ?_ | intro hl))
   all_goals conv => whnf
   all_goals exact ⟨rfl, rfl⟩
theorem flag_g (q : As) : RetL Tryz.prog F_texts_asked_flag [.ptr 0 0] [cQ q] (.bool (fgS q).1) [cQ (fgS q).2] := by
 obtain ⟨l, b⟩ := q
 by_cases h : 0 < b ∨ l = []
 ·have hn := next_g2 l b h
  have e : fgS ⟨l, b⟩ = (false, ⟨l, b⟩) := by
   cases l with
   | nil => rfl
   | cons a l => rw [fgS, if_pos (h.resolve_right (by simp))]
  rw [e]
  refine rl_texts_asked_flag rfl fun hw _ => ?_
  clear hw
  repeat' ((conv => whnf); (first | refine Bth.mk ?_ ?_ | refine pickk0 ?_ | refine csp (fun h => ?_) (fun h => ?_) | refine clll (RetL.frame (hn) _ [0] rfl (by simp) rfl rfl) (fun _ _ => ?_) | (refine sda ?_ ?_; (focus (first | rfl | exact of_decide_eq_true rfl | (simp; done)))) | refine sda ?_ ?_ | refine conk rfl ?_ | refine ldk rfl ?_ | refine mapk (fun x hx => ?_) | exact ⟨rfl, rfl⟩ | refine nilk (fun h => absurd h (of_decide_eq_false rfl)) ?_ | refine nilk (fun h => absurd h (List.cons_ne_nil _ _)) ?_ | refine nilk (fun h => ?_) ?_ | exact rfl | exact True.intro | refine leftk1 rfl ?_ | refine bytk8 rfl ?_ | refine bytk rfl ?_ | exact leftk0 rfl | refine eqk rfl ?_ | refine fLm rfl ?_ | refine fLk (by assumption) ?_ | refine fVk ?_ | refine fLVk ?_ | refine fWk ?_ | intro hl))
  all_goals conv => whnf
  all_goals exact ⟨rfl, rfl⟩
 ·cases l with
  | nil => exact absurd (.inr rfl) h
  | cons a l =>
   have hb : ¬ 0 < b := fun q => h (.inl q)
   have hn := next_g1 a l b hb
   have ht := ToBool_g _ (oneS_good a)
   rw [fgS, if_neg hb]
   refine rl_texts_asked_flag rfl fun hw _ => ?_
   clear hw
   repeat' ((conv => whnf); (first | refine Bth.mk ?_ ?_ | refine pickk0 ?_ | refine csp (fun h => ?_) (fun h => ?_) | refine clll (RetL.frame (hn) _ [0] rfl (by simp) rfl rfl) (fun _ _ => ?_) | refine cllo (ht) (fun _ => ?_) | (refine sda ?_ ?_; (focus (first | rfl | exact of_decide_eq_true rfl | (simp; done)))) | refine sda ?_ ?_ | refine conk rfl ?_ | refine ldk rfl ?_ | refine mapk (fun x hx => ?_) | exact ⟨rfl, rfl⟩ | refine nilk (fun h => absurd h (of_decide_eq_false rfl)) ?_ | refine nilk (fun h => absurd h (List.cons_ne_nil _ _)) ?_ | refine nilk (fun h => ?_) ?_ | exact rfl | exact True.intro | refine leftk1 rfl ?_ | refine bytk8 rfl ?_ | refine bytk rfl ?_ | exact leftk0 rfl | refine eqk rfl ?_ | refine fLm rfl ?_ | refine fLk (by assumption) ?_ | refine fVk ?_ | refine fLVk ?_ | refine fWk ?_ | intro hl))
   all_goals conv => whnf
   all_goals exact ⟨rfl, rfl⟩
theorem whole_g (d : Int) (q : As) : RetL Tryz.prog F_texts_asked_whole [.ptr 0 0, .int .i64 d] [cQ q] (.int .i64 (whS18 d q).1) [cQ (whS18 d q).2] := by
 obtain ⟨l, b⟩ := q
 cases l with
 | nil =>
  refine rl_texts_asked_whole rfl fun hw _ => ?_
  clear hw
  repeat' ((conv => whnf); (first | refine Bth.mk ?_ ?_ | refine pickk0 ?_ | refine csp (fun h => ?_) (fun h => ?_) | (refine sda ?_ ?_; (focus (first | rfl | exact of_decide_eq_true rfl | (simp; done)))) | refine sda ?_ ?_ | refine conk rfl ?_ | refine ldk rfl ?_ | refine mapk (fun x hx => ?_) | exact ⟨rfl, rfl⟩ | refine nilk (fun h => absurd h (of_decide_eq_false rfl)) ?_ | refine nilk (fun h => absurd h (List.cons_ne_nil _ _)) ?_ | refine nilk (fun h => ?_) ?_ | exact rfl | exact True.intro | refine leftk1 rfl ?_ | refine bytk8 rfl ?_ | refine bytk rfl ?_ | exact leftk0 rfl | refine eqk rfl ?_ | refine fLm rfl ?_ | refine fLk (by assumption) ?_ | refine fVk ?_ | refine fLVk ?_ | refine fWk ?_ | intro hl))
  all_goals conv => whnf
  all_goals exact ⟨rfl, rfl⟩
 | cons a l =>
  have hn := number_g ⟨a :: l, b⟩
  have h9 : decide (((cA a :: l.map cA).length : Int) = 0) = false := decide_eq_false (by rw [List.length_cons]; omega)
  by_cases hb : 0 < b
  ·rw [nmS, if_pos hb] at hn
   rw [whS18, if_pos hb]
   have h0 : decide (b > 0) = true := decide_eq_true hb
   refine rl_texts_asked_whole rfl fun hw _ => ?_
   clear hw
   repeat' ((conv => whnf); (first | refine Bth.mk ?_ ?_ | refine csp_f (h9) ?_ | refine csp_t (h0) ?_ | refine pickk0 ?_ | refine csp (fun h => ?_) (fun h => ?_) | refine clll (RetL.frame (hn) _ [0] rfl (by simp) rfl rfl) (fun _ _ => ?_) | (refine sda ?_ ?_; (focus (first | rfl | exact of_decide_eq_true rfl | (simp; done)))) | refine sda ?_ ?_ | refine conk rfl ?_ | refine ldk rfl ?_ | refine mapk (fun x hx => ?_) | exact ⟨rfl, rfl⟩ | refine nilk (fun h => absurd h (of_decide_eq_false rfl)) ?_ | refine nilk (fun h => absurd h (List.cons_ne_nil _ _)) ?_ | refine nilk (fun h => ?_) ?_ | exact rfl | exact True.intro | refine leftk1 rfl ?_ | refine bytk8 rfl ?_ | refine bytk rfl ?_ | exact leftk0 rfl | refine eqk rfl ?_ | refine fLm rfl ?_ | refine fLk (by assumption) ?_ | refine fVk ?_ | refine fLVk ?_ | refine fWk ?_ | intro hl))
   all_goals conv => whnf
   all_goals exact ⟨rfl, rfl⟩
  ·rw [nmS, if_neg hb] at hn
   rw [whS18, if_neg hb]
   by_cases ht : 0 < (tn (oneS a)).2
   ·rw [if_pos ht]
    have h0 : decide ((tn (oneS a)).2 > 0) = true := decide_eq_true ht
    refine rl_texts_asked_whole rfl fun hw _ => ?_
    clear hw
    repeat' ((conv => whnf); (first | refine Bth.mk ?_ ?_ | refine csp_f (h9) ?_ | refine csp_t (h0) ?_ | refine pickk0 ?_ | refine csp (fun h => ?_) (fun h => ?_) | refine clll (RetL.frame (hn) _ [0] rfl (by simp) rfl rfl) (fun _ _ => ?_) | (refine sda ?_ ?_; (focus (first | rfl | exact of_decide_eq_true rfl | (simp; done)))) | refine sda ?_ ?_ | refine conk rfl ?_ | refine ldk rfl ?_ | refine mapk (fun x hx => ?_) | exact ⟨rfl, rfl⟩ | refine nilk (fun h => absurd h (of_decide_eq_false rfl)) ?_ | refine nilk (fun h => absurd h (List.cons_ne_nil _ _)) ?_ | refine nilk (fun h => ?_) ?_ | exact rfl | exact True.intro | refine leftk1 rfl ?_ | refine bytk8 rfl ?_ | refine bytk rfl ?_ | exact leftk0 rfl | refine eqk rfl ?_ | refine fLm rfl ?_ | refine fLk (by assumption) ?_ | refine fVk ?_ | refine fLVk ?_ | refine fWk ?_ | intro hl))
    all_goals conv => whnf
    all_goals exact ⟨rfl, rfl⟩
   ·rw [if_neg ht]
    have h0 : decide ((tn (oneS a)).2 > 0) = false := decide_eq_false ht
    have hW := num_Whole (tn (oneS a)).1
    by_cases hk : (wholeS (tn (oneS a)).1).2 = true
    ·rw [if_pos hk]
     rw [hk] at hW
     refine rl_texts_asked_whole rfl fun hw _ => ?_
     clear hw
     repeat' ((conv => whnf); (first | refine Bth.mk ?_ ?_ | refine csp_f (h9) ?_ | refine csp_f (h0) ?_ | refine pickk0 ?_ | refine csp (fun h => ?_) (fun h => ?_) | refine clll (RetL.frame (hn) _ [0] rfl (by simp) rfl rfl) (fun _ _ => ?_) | refine cllo (hW) (fun _ => ?_) | (refine sda ?_ ?_; (focus (first | rfl | exact of_decide_eq_true rfl | (simp; done)))) | refine sda ?_ ?_ | refine conk rfl ?_ | refine ldk rfl ?_ | refine mapk (fun x hx => ?_) | exact ⟨rfl, rfl⟩ | refine nilk (fun h => absurd h (of_decide_eq_false rfl)) ?_ | refine nilk (fun h => absurd h (List.cons_ne_nil _ _)) ?_ | refine nilk (fun h => ?_) ?_ | exact rfl | exact True.intro | refine leftk1 rfl ?_ | refine bytk8 rfl ?_ | refine bytk rfl ?_ | exact leftk0 rfl | refine eqk rfl ?_ | refine fLm rfl ?_ | refine fLk (by assumption) ?_ | refine fVk ?_ | refine fLVk ?_ | refine fWk ?_ | intro hl))
     all_goals conv => whnf
     all_goals exact ⟨rfl, rfl⟩
    ·rw [if_neg hk]
     rw [show (wholeS (tn (oneS a)).1).2 = false by simpa using hk] at hW
     refine rl_texts_asked_whole rfl fun hw _ => ?_
     clear hw
     repeat' ((conv => whnf); (first | refine Bth.mk ?_ ?_ | refine csp_f (h9) ?_ | refine csp_f (h0) ?_ | refine pickk0 ?_ | refine csp (fun h => ?_) (fun h => ?_) | refine clll (RetL.frame (hn) _ [0] rfl (by simp) rfl rfl) (fun _ _ => ?_) | refine cllo (hW) (fun _ => ?_) | (refine sda ?_ ?_; (focus (first | rfl | exact of_decide_eq_true rfl | (simp; done)))) | refine sda ?_ ?_ | refine conk rfl ?_ | refine ldk rfl ?_ | refine mapk (fun x hx => ?_) | exact ⟨rfl, rfl⟩ | refine nilk (fun h => absurd h (of_decide_eq_false rfl)) ?_ | refine nilk (fun h => absurd h (List.cons_ne_nil _ _)) ?_ | refine nilk (fun h => ?_) ?_ | exact rfl | exact True.intro | refine leftk1 rfl ?_ | refine bytk8 rfl ?_ | refine bytk rfl ?_ | exact leftk0 rfl | refine eqk rfl ?_ | refine fLm rfl ?_ | refine fLk (by assumption) ?_ | refine fVk ?_ | refine fLVk ?_ | refine fWk ?_ | intro hl))
     all_goals conv => whnf
     all_goals exact ⟨rfl, rfl⟩
end Go.Proofs.YtcbknemdidehlaaGreatDoor
set_option maxRecDepth 100000
set_option linter.all false
namespace Go.Proofs.YtcbknemdidehlaaGreatDoor
open Ab R
noncomputable def jv1 (skip : Bool) (v : GV) (l : List ByteArray) : List ByteArray := if (!skip || !decide ((tx v).1 = e0)) = true then l ++ [(tx v).1] else l
noncomputable def jv (skip : Bool) : List GV → List ByteArray → Int → List ByteArray × Int
 | [], l, b => (l, b)
 | v :: vs, l, b => if 0 < b then (l, b) else jv skip vs (jv1 skip v l) (tx v).2
def jb (a : Ar) (b : Int) : Int := if b = 0 ∧ goodA a = false then 2 else b
noncomputable def ja (skip : Bool) : List Ar → List ByteArray → Int → List ByteArray × Int
 | [], l, b => (l, b)
 | a :: t, l, b => ja skip t (jv skip a.l l (jb a b)).1 (jv skip a.l l (jb a b)).2
theorem jv_bad (skip : Bool) (vs : List GV) (l : List ByteArray) (b : Int) (h : 0 < b) : jv skip vs l b = (l, b) := by
 cases vs with
 | nil => rfl
 | cons v vs => rw [jv, if_pos h]
theorem roundk {α : Type} {J P : α → Prop} {G : Prop} (main : (∀ y, J y → P y) → G) (r : ∀ y, J y → P y) : G := main r
structure Jd where
 i : Nat
 l : List ByteArray
 b : Int
 h : Bool
def Sj (ls : List Ar) (d : ByteArray) (x : Jd) : List O :=
 match x.h with
 | false => [cQ ⟨ls, x.b⟩, .box true [.str d], .box true [.int .i64 0, .int .i64 0, .str e0], .box true [.row true []]]
 | true => [cQ ⟨ls, x.b⟩, .box true [.str d], .box true [.int .i64 0, .int .i64 0, .str e0], .box true [.sl 4 0 x.l.length], .arr true 1 (x.l.map cS)]
structure Jok (n : Nat) (x : Jd) : Prop where
 e : x.h = false → x.l = []
 n : x.l.length ≤ n
 s : ∀ c ∈ x.l, c.size ≤ 255
 b : 0 ≤ x.b ∧ x.b ≤ 8
def sumA (l : List Ar) : Nat := (l.map fun a => a.l.length).sum
theorem sumA_take {l : List Ar} {i : Nat} {x : Ar} (hx : l[i]? = some x) : sumA (l.take (i + 1)) = sumA (l.take i) + x.l.length := by
 rw [sumA, List.take_add_one, hx]
 simp [sumA]
theorem sumA_le (l : List Ar) (i : Nat) : sumA (l.take i) ≤ sumA l := by
 have : sumA (l.take i ++ l.drop i) = sumA (l.take i) + sumA (l.drop i) := by
  unfold sumA
  rw [List.map_append, List.sum_append]
 rw [List.take_append_drop] at this
 omega
theorem jeA {skip : Bool} {x : Ar} {l : List ByteArray} {b : Int} (h1 : decide (b = 0) = true) (h2 : (!goodA x) = true) : (0 < (2 : Int) ∨ goodA x = true) ∧ jv skip (x.l.drop 0) l 2 = jv skip x.l l (jb x b) :=
 ⟨.inl (by decide), by rw [jb, if_pos ⟨of_decide_eq_true h1, by simpa using h2⟩, List.drop_zero]⟩
theorem jeB {skip : Bool} {x : Ar} {l : List ByteArray} {b : Int} (h2 : (!goodA x) = false) : (0 < b ∨ goodA x = true) ∧ jv skip (x.l.drop 0) l b = jv skip x.l l (jb x b) :=
 ⟨.inr (by simpa using h2), by rw [jb, if_neg (fun q => by rw [q.2] at h2; simp at h2), List.drop_zero]⟩
theorem jeC {skip : Bool} {x : Ar} {l : List ByteArray} {b : Int} (h1 : decide (b = 0) = false) (hb : 0 ≤ b) : (0 < b ∨ goodA x = true) ∧ jv skip (x.l.drop 0) l b = jv skip x.l l (jb x b) :=
 have h := of_decide_eq_false h1
 ⟨.inl (by omega), by rw [jb, if_neg (fun q => h q.1), List.drop_zero]⟩
theorem jv_next {skip : Bool} {vs : List GV} {k : Nat} {v : GV} (hv : vs[k]? = some v) {l : List ByteArray} {b : Int} (hb : ¬ 0 < b) : jv skip (vs.drop k) l b = jv skip (vs.drop (k + 1)) (jv1 skip v l) (tx v).2 := by
 obtain ⟨hlt, he⟩ := List.getElem?_eq_some_iff.1 hv
 rw [List.drop_eq_getElem_cons hlt, he, jv, if_neg hb]
theorem ja_next {skip : Bool} {ls : List Ar} {i : Nat} {x : Ar} (hx : ls[i]? = some x) {l l2 : List ByteArray} {b b2 : Int} (h : (l2, b2) = jv skip x.l l (jb x b)) : ja skip (ls.drop (i + 1)) l2 b2 = ja skip (ls.drop i) l b := by
 obtain ⟨hlt, he⟩ := List.getElem?_eq_some_iff.1 hx
 rw [List.drop_eq_getElem_cons hlt, he, ja, ← h]
noncomputable def joinS (skip : Bool) (d : ByteArray) (ls : List Ar) (b : Int) : GV := if 0 < (ja skip ls [] b).2 then badS (ja skip ls [] b).2 else strS (joinB (ja skip ls [] b).1 d)
theorem join_len (d : List UInt8) (hd : d.length ≤ 255) : ∀ (l : List (List UInt8)), (∀ c ∈ l, c.length ≤ 255) → (Lib.join l d).length ≤ 510 * l.length
 | [], _ => by simp [Lib.join]
 | [x], h => by have := h x List.mem_cons_self; simp [Lib.join]; omega
 | x :: y :: l, h => by
  have h1 := h x List.mem_cons_self
  have h2 := join_len d hd (y :: l) (fun c hc => h c (List.mem_cons_of_mem _ hc))
  simp [Lib.join] at h2 ⊢
  omega
theorem Join_g (l : List ByteArray) (d : ByteArray) (hd : d.size ≤ 255) (hl : l.length ≤ 100000) (hs : ∀ c ∈ l, c.size ≤ 255) : Ret Tryz.prog F_strings_Join [.row false (l.map cS), .str d] (.str (joinB l d)) := by
 refine Join_c l d (by omega) ?_
 have := join_len d.data.toList (by rw [Array.length_toList]; exact hd) (l.map (·.data.toList)) (fun c hc => by
  obtain ⟨x, hx, rfl⟩ := List.mem_map.1 hc
  rw [Array.length_toList]
  exact hs x hx)
 rw [List.length_map] at this
 omega
set_option maxHeartbeats 8000000 in
theorem joined_c (ls : List Ar) (b0 : Int) (d : ByteArray) (skip : Bool) (hb0 : 0 ≤ b0 ∧ b0 ≤ 8) (hn : sumA ls ≤ 100000) (hls : ls.length ≤ 100000) (hd : d.size ≤ 255) :
  RetL Tryz.prog F_texts_joined [.ptr 0 0, .str d, .bool skip] [cQ ⟨ls, b0⟩] (eV (joinS skip d ls b0)) [cQ ⟨ls, (ja skip ls [] b0).2⟩] := by
 refine rl_texts_joined rfl fun hw _ => ?_
 clear hw
 repeat' ((conv => whnf); (first | refine Bth.mk ?_ ?_ | refine pickk0 ?_ | refine csp (fun h => ?_) (fun h => ?_) | (refine sda ?_ ?_; (focus (first | rfl | exact of_decide_eq_true rfl | (simp; done)))) | refine sda ?_ ?_ | refine conk rfl ?_ | refine ldk rfl ?_ | refine mapk (fun x hx => ?_) | exact ⟨rfl, rfl⟩ | refine nilk (fun h => absurd h (of_decide_eq_false rfl)) ?_ | refine nilk (fun h => absurd h (List.cons_ne_nil _ _)) ?_ | refine nilk (fun h => ?_) ?_ | exact rfl | exact True.intro | refine leftk1 rfl ?_ | refine bytk8 rfl ?_ | refine bytk rfl ?_ | exact leftk0 rfl | refine eqk rfl ?_ | refine fLm rfl ?_ | refine fLk (by assumption) ?_ | refine fVk ?_ | refine fLVk ?_ | refine fWk ?_ | intro hl))
 refine .inr (.inr (.inr (.inr ⟨Jd, [0, 2, 4, 6, 7, 17, 18, 19], fun x => [(0, .ptr 0 0), (2, .bool skip), (4, .ptr 1 0), (6, .ptr 2 0), (7, .ptr 3 0), (17, .row false (ls.map cA)), (18, .int .i64 ls.length), (19, .int .i64 x.i)], Sj ls d,
  fun x => Jok (sumA (ls.take x.i)) x ∧ x.i ≤ ls.length ∧ ja skip (ls.drop x.i) x.l x.b = ja skip ls [] b0, fun x => ls.length - x.i, ⟨[0, 1, 2, 3], rfl, ?_⟩, ?_⟩)))
 ·conv => whnf
  exact ⟨⟨0, [], b0, false⟩, by simp, rfl, ⟨fun _ => rfl, by simp, by simp, hb0⟩, by simp, rfl⟩
 ·rintro ⟨i, l, b, h⟩ ⟨⟨je, jn, js, jb1⟩, hi, he⟩
  dsimp only at je jn js jb1 hi he
  have hlA : ((ls.map cA).length : Int) = ls.length := by rw [List.length_map]
  by_cases hin : i < ls.length
  ·have h1 : decide ((i : Int) < (ls.length : Int)) = true := decide_eq_true (by omega)
   have h2 : 0 ≤ (i : Int) ∧ (i : Int) < ((ls.map cA).length : Int) := by omega
   obtain ⟨x, hx⟩ : ∃ x, ls[i]? = some x := ⟨_, List.getElem?_eq_getElem hin⟩
   have hc : (ls.map cA)[((i : Nat) : Int).toNat]? = some (cA x) := by rw [Int.toNat_natCast, List.getElem?_map, hx]; rfl
   have hg := maths_Good x
   have hxl := sumA_take hx
   have hxle := sumA_le ls (i + 1)
   have hout : ∀ (l2 : List ByteArray) (b2 : Int), (l2, b2) = jv skip x.l l (jb x b) → ja skip (ls.drop (i + 1)) l2 b2 = ja skip ls [] b0 := fun _ _ h => (ja_next hx h).trans he
   have hmu : ls.length - (i + 1) < ls.length - i := by omega
   have eI : IntKind.i64.wrap ((i : Int) + 1) = ((i + 1 : Nat) : Int) := by rw [w64 (by omega)]; omega
   revert h
   apply roundk (J := fun y : Jd => Jok (sumA (ls.take i) + y.i) y ∧ y.i ≤ x.l.length ∧ (0 < y.b ∨ goodA x = true) ∧ jv skip (x.l.drop y.i) y.l y.b = jv skip x.l l (jb x b))
   ·intro round h je
    cases h
    all_goals repeat' ((conv => whnf); (first | refine Bth.mk ?_ ?_ | refine csp_t (h1) ?_ | refine sda (h2) ?_ | refine pickk0 ?_ | refine csp (fun h => ?_) (fun h => ?_) | refine conk hc ?_ | refine cllo (hg) (fun _ => ?_) | (refine sda ?_ ?_; (focus (first | rfl | exact of_decide_eq_true rfl | (simp; done)))) | refine sda ?_ ?_ | refine conk rfl ?_ | refine ldk rfl ?_ | refine mapk (fun x hx => ?_) | exact ⟨rfl, rfl⟩ | refine nilk (fun h => absurd h (of_decide_eq_false rfl)) ?_ | refine nilk (fun h => absurd h (List.cons_ne_nil _ _)) ?_ | refine nilk (fun h => ?_) ?_ | exact rfl | exact True.intro | refine leftk1 rfl ?_ | refine bytk8 rfl ?_ | refine bytk rfl ?_ | exact leftk0 rfl | refine eqk rfl ?_ | refine fLm rfl ?_ | refine fLk (by assumption) ?_ | refine fVk ?_ | refine fLVk ?_ | refine fWk ?_ | intro hl))
    all_goals conv => whnf
    all_goals refine .inr (.inr (.inr (.inr ⟨Jd, [0, 2, 4, 6, 7, 17, 18, 19, 37, 38, 39], fun y => [(0, .ptr 0 0), (2, .bool skip), (4, .ptr 1 0), (6, .ptr 2 0), (7, .ptr 3 0), (17, .row false (ls.map cA)), (18, .int .i64 ls.length), (19, .int .i64 i), (37, .row false (x.l.map cV)), (38, .int .i64 ((x.l.map cV).length : Nat)), (39, .int .i64 y.i)], Sj ls d,
     _, fun y => x.l.length - y.i, ?_, round⟩)))
    all_goals (first
     | (refine ⟨[0, 1, 2, 3], rfl, ?_⟩; (conv => whnf); exact ⟨⟨0, l, 2, false⟩, rfl, rfl, ⟨je, jn, js, (by decide : (0 : Int) ≤ 2), (by decide : (2 : Int) ≤ 8)⟩, Nat.zero_le _, (jeA (skip := skip) (l := l) (b := b) (by assumption) (by assumption)).1, (jeA (skip := skip) (l := l) (b := b) (by assumption) (by assumption)).2⟩)
     | (refine ⟨[0, 1, 2, 3], rfl, ?_⟩; (conv => whnf); exact ⟨⟨0, l, b, false⟩, rfl, rfl, ⟨je, jn, js, jb1⟩, Nat.zero_le _, (jeB (skip := skip) (l := l) (b := b) (by assumption)).1, (jeB (skip := skip) (l := l) (b := b) (by assumption)).2⟩)
     | (refine ⟨[0, 1, 2, 3], rfl, ?_⟩; (conv => whnf); exact ⟨⟨0, l, b, false⟩, rfl, rfl, ⟨je, jn, js, jb1⟩, Nat.zero_le _, (jeC (skip := skip) (l := l) (b := b) (by assumption) jb1.1).1, (jeC (skip := skip) (l := l) (b := b) (by assumption) jb1.1).2⟩)
     | (refine ⟨[0, 1, 2, 3, 4], rfl, ?_⟩; (conv => whnf); exact ⟨⟨0, l, 2, true⟩, rfl, rfl, ⟨je, jn, js, (by decide : (0 : Int) ≤ 2), (by decide : (2 : Int) ≤ 8)⟩, Nat.zero_le _, (jeA (skip := skip) (l := l) (b := b) (by assumption) (by assumption)).1, (jeA (skip := skip) (l := l) (b := b) (by assumption) (by assumption)).2⟩)
     | (refine ⟨[0, 1, 2, 3, 4], rfl, ?_⟩; (conv => whnf); exact ⟨⟨0, l, b, true⟩, rfl, rfl, ⟨je, jn, js, jb1⟩, Nat.zero_le _, (jeB (skip := skip) (l := l) (b := b) (by assumption)).1, (jeB (skip := skip) (l := l) (b := b) (by assumption)).2⟩)
     | (refine ⟨[0, 1, 2, 3, 4], rfl, ?_⟩; (conv => whnf); exact ⟨⟨0, l, b, true⟩, rfl, rfl, ⟨je, jn, js, jb1⟩, Nat.zero_le _, (jeC (skip := skip) (l := l) (b := b) (by assumption) jb1.1).1, (jeC (skip := skip) (l := l) (b := b) (by assumption) jb1.1).2⟩))
   ·rintro ⟨k, l2, b2, h2⟩ ⟨⟨ke, kn, ks, kb⟩, hk, hgx, hjv⟩
    dsimp only at ke kn ks kb hk hgx hjv
    have hlm : (x.l.map cV).length = x.l.length := List.length_map _
    have hn1 : l2.length ≤ sumA (ls.take (i + 1)) := by rw [hxl]; omega
    by_cases hkn : k < x.l.length
    ·have d1 : decide ((k : Int) < (((x.l.map cV).length : Nat) : Int)) = true := decide_eq_true (by omega)
     obtain ⟨v, hv⟩ : ∃ v, x.l[k]? = some v := ⟨_, List.getElem?_eq_getElem hkn⟩
     have hcv : (x.l.map cV)[((k : Nat) : Int).toNat]? = some (cV v) := by rw [Int.toNat_natCast, List.getElem?_map, hv]; rfl
     have d2 : 0 ≤ (k : Int) ∧ (k : Int) < ((x.l.map cV).length : Int) := by omega
     by_cases hb2 : 0 < b2
     ·have d3 : decide (b2 > 0) = true := decide_eq_true hb2
      have hq : (l2, b2) = jv skip x.l l (jb x b) := by rw [← hjv, jv_bad _ _ _ _ hb2]
      cases h2
      ·repeat' ((conv => whnf); (first | refine Bth.mk ?_ ?_ | refine csp_t (d1) ?_ | refine sda (d2) ?_ | refine csp_t (d3) ?_ | refine pickk0 ?_ | refine csp (fun h => ?_) (fun h => ?_) | refine conk hcv ?_ | (refine sda ?_ ?_; (focus (first | rfl | exact of_decide_eq_true rfl | (simp; done)))) | refine sda ?_ ?_ | refine conk rfl ?_ | refine ldk rfl ?_ | refine mapk (fun x hx => ?_) | exact ⟨rfl, rfl⟩ | refine nilk (fun h => absurd h (of_decide_eq_false rfl)) ?_ | refine nilk (fun h => absurd h (List.cons_ne_nil _ _)) ?_ | refine nilk (fun h => ?_) ?_ | exact rfl | exact True.intro | refine leftk1 rfl ?_ | refine bytk8 rfl ?_ | refine bytk rfl ?_ | exact leftk0 rfl | refine eqk rfl ?_ | refine fLm rfl ?_ | refine fLk (by assumption) ?_ | refine fVk ?_ | refine fLVk ?_ | refine fWk ?_ | intro hl))
       conv => whnf
       refine ⟨[0, 1, 2, 3], rfl, ?_⟩
       conv => whnf
       exact ⟨⟨i + 1, l2, b2, false⟩, by rw [eI], rfl, ⟨⟨ke, hn1, ks, kb⟩, hin, hout _ _ hq⟩, hmu⟩
      ·repeat' ((conv => whnf); (first | refine Bth.mk ?_ ?_ | refine csp_t (d1) ?_ | refine sda (d2) ?_ | refine csp_t (d3) ?_ | refine pickk0 ?_ | refine csp (fun h => ?_) (fun h => ?_) | refine conk hcv ?_ | (refine sda ?_ ?_; (focus (first | rfl | exact of_decide_eq_true rfl | (simp; done)))) | refine sda ?_ ?_ | refine conk rfl ?_ | refine ldk rfl ?_ | refine mapk (fun x hx => ?_) | exact ⟨rfl, rfl⟩ | refine nilk (fun h => absurd h (of_decide_eq_false rfl)) ?_ | refine nilk (fun h => absurd h (List.cons_ne_nil _ _)) ?_ | refine nilk (fun h => ?_) ?_ | exact rfl | exact True.intro | refine leftk1 rfl ?_ | refine bytk8 rfl ?_ | refine bytk rfl ?_ | exact leftk0 rfl | refine eqk rfl ?_ | refine fLm rfl ?_ | refine fLk (by assumption) ?_ | refine fVk ?_ | refine fLVk ?_ | refine fWk ?_ | intro hl))
       conv => whnf
       refine ⟨[0, 1, 2, 3, 4], rfl, ?_⟩
       conv => whnf
       exact ⟨⟨i + 1, l2, b2, true⟩, by rw [eI], rfl, ⟨⟨ke, hn1, ks, kb⟩, hin, hout _ _ hq⟩, hmu⟩
     ·have d3 : decide (b2 > 0) = false := decide_eq_false hb2
      have hgv : goodV v = true := List.all_eq_true.1 (goodA_out (hgx.resolve_left hb2)).2 v (List.mem_of_getElem? hv)
      have ht := ToText_g v hgv
      obtain ⟨g1, g2, g3⟩ := tx_good hgv
      have hnx := (jv_next (skip := skip) hv (l := l2) hb2).symm.trans hjv
      have eK : IntKind.i64.wrap ((k : Int) + 1) = ((k + 1 : Nat) : Int) := by rw [w64 (by omega)]; omega
      have hmk : x.l.length - (k + 1) < x.l.length - k := by omega
      have hj0 : jv1 skip v l2 = if (!skip || !decide ((tx v).1 = e0)) = true then l2 ++ [(tx v).1] else l2 := rfl
      obtain ⟨X, eX⟩ : ∃ X, (tx v).1 = X := ⟨_, rfl⟩
      obtain ⟨Y, eY⟩ : ∃ Y, (tx v).2 = Y := ⟨_, rfl⟩
      rw [eX] at ht g1 hj0
      rw [eY] at ht g2 g3 hnx
      have hgx2 : 0 < Y ∨ goodA x = true := .inr (hgx.resolve_left hb2)
      have ks2 : ∀ c ∈ l2 ++ [X], c.size ≤ 255 := fun c hc => by
       rcases List.mem_append.1 hc with q | q
       ·exact ks c q
       ·rw [List.mem_singleton] at q; rw [q]; exact g1
      have kn2 : l2.length ≤ sumA (ls.take i) + (k + 1) := by omega
      have kn3 : (l2 ++ [X]).length ≤ sumA (ls.take i) + (k + 1) := by rw [List.length_append]; simp; omega
      clear eX eY
      cases skip
      ·rw [hj0, if_pos (show (!false || !decide (X = e0)) = true from rfl)] at hnx
       cases h2
       ·obtain rfl := ke rfl
        repeat' ((conv => whnf); (first | refine Bth.mk ?_ ?_ | refine csp_t (d1) ?_ | refine sda (d2) ?_ | refine csp_f (d3) ?_ | refine pickk0 ?_ | refine csp (fun h => ?_) (fun h => ?_) | refine cllo (ht) (fun _ => ?_) | refine conk hcv ?_ | (refine sda ?_ ?_; (focus (first | rfl | exact of_decide_eq_true rfl | (simp; done)))) | refine sda ?_ ?_ | refine conk rfl ?_ | refine ldk rfl ?_ | refine mapk (fun x hx => ?_) | exact ⟨rfl, rfl⟩ | refine nilk (fun h => absurd h (of_decide_eq_false rfl)) ?_ | refine nilk (fun h => absurd h (List.cons_ne_nil _ _)) ?_ | refine nilk (fun h => ?_) ?_ | exact rfl | exact True.intro | refine leftk1 rfl ?_ | refine bytk8 rfl ?_ | refine bytk rfl ?_ | exact leftk0 rfl | refine eqk rfl ?_ | refine fLm rfl ?_ | refine fLk (by assumption) ?_ | refine fVk ?_ | refine fLVk ?_ | refine fWk ?_ | intro hl))
        all_goals conv => whnf
        refine ⟨[0, 1, 2, 3, 5], rfl, ?_⟩
        conv => whnf
        refine ⟨⟨k + 1, [] ++ [X], Y, true⟩, by rw [eK], ?_, ⟨⟨fun q => (by cases q), kn3, ks2, g2, g3⟩, hkn, hgx2, hnx⟩, hmk⟩
        rfl
       ·repeat' ((conv => whnf); (first | refine Bth.mk ?_ ?_ | refine csp_t (d1) ?_ | refine sda (d2) ?_ | refine csp_f (d3) ?_ | refine pickk0 ?_ | refine csp (fun h => ?_) (fun h => ?_) | refine cllo (ht) (fun _ => ?_) | refine conk hcv ?_ | (refine sda ?_ ?_; (focus (first | rfl | exact of_decide_eq_true rfl | (simp; done)))) | refine sda ?_ ?_ | refine conk rfl ?_ | refine ldk rfl ?_ | refine mapk (fun x hx => ?_) | exact ⟨rfl, rfl⟩ | refine nilk (fun h => absurd h (of_decide_eq_false rfl)) ?_ | refine nilk (fun h => absurd h (List.cons_ne_nil _ _)) ?_ | refine nilk (fun h => ?_) ?_ | exact rfl | exact True.intro | refine leftk1 rfl ?_ | refine bytk8 rfl ?_ | refine bytk rfl ?_ | exact leftk0 rfl | refine eqk rfl ?_ | refine fLm rfl ?_ | refine fLk (by assumption) ?_ | refine fVk ?_ | refine fLVk ?_ | refine fWk ?_ | intro hl))
        all_goals conv => whnf
        ·refine Nat.le_trans (Nat.mul_le_mul_right _ (show (l2.map cS).length + 1 ≤ 100001 from ?_)) (by decide)
         rw [List.length_map]
         omega
        refine ⟨[0, 1, 2, 3, 6], rfl, ?_⟩
        conv => whnf
        refine ⟨⟨k + 1, l2 ++ [X], Y, true⟩, by rw [eK], ?_, ⟨⟨fun q => (by cases q), kn3, ks2, g2, g3⟩, hkn, hgx2, hnx⟩, hmk⟩
        show [cQ ⟨ls, Y⟩, O.box true [V.str d], O.box true [.int .i64 0, .int .i64 0, .str e0], O.box true [V.sl 4 0 ((l2.map cS).length + 1)], O.arr true 1 (l2.map cS ++ [[V.str X]])] = Sj ls d ⟨k + 1, l2 ++ [X], Y, true⟩
        simp [Sj]
      ·obtain ⟨⟨xs⟩⟩ := X
       cases xs
       ·rw [hj0, if_neg (show ¬ (!true || !decide ((⟨⟨[]⟩⟩ : ByteArray) = e0)) = true from fun q => Bool.noConfusion q)] at hnx
        cases h2
        ·repeat' ((conv => whnf); (first | refine Bth.mk ?_ ?_ | refine csp_t (d1) ?_ | refine sda (d2) ?_ | refine csp_f (d3) ?_ | refine pickk0 ?_ | refine csp (fun h => ?_) (fun h => ?_) | refine cllo (ht) (fun _ => ?_) | refine conk hcv ?_ | (refine sda ?_ ?_; (focus (first | rfl | exact of_decide_eq_true rfl | (simp; done)))) | refine sda ?_ ?_ | refine conk rfl ?_ | refine ldk rfl ?_ | refine mapk (fun x hx => ?_) | exact ⟨rfl, rfl⟩ | refine nilk (fun h => absurd h (of_decide_eq_false rfl)) ?_ | refine nilk (fun h => absurd h (List.cons_ne_nil _ _)) ?_ | refine nilk (fun h => ?_) ?_ | exact rfl | exact True.intro | refine leftk1 rfl ?_ | refine bytk8 rfl ?_ | refine bytk rfl ?_ | exact leftk0 rfl | refine eqk rfl ?_ | refine fLm rfl ?_ | refine fLk (by assumption) ?_ | refine fVk ?_ | refine fLVk ?_ | refine fWk ?_ | intro hl))
         conv => whnf
         refine ⟨[0, 1, 2, 3], rfl, ?_⟩
         conv => whnf
         exact ⟨⟨k + 1, l2, Y, false⟩, by rw [eK], rfl, ⟨⟨ke, kn2, ks, g2, g3⟩, hkn, hgx2, hnx⟩, hmk⟩
        ·repeat' ((conv => whnf); (first | refine Bth.mk ?_ ?_ | refine csp_t (d1) ?_ | refine sda (d2) ?_ | refine csp_f (d3) ?_ | refine pickk0 ?_ | refine csp (fun h => ?_) (fun h => ?_) | refine cllo (ht) (fun _ => ?_) | refine conk hcv ?_ | (refine sda ?_ ?_; (focus (first | rfl | exact of_decide_eq_true rfl | (simp; done)))) | refine sda ?_ ?_ | refine conk rfl ?_ | refine ldk rfl ?_ | refine mapk (fun x hx => ?_) | exact ⟨rfl, rfl⟩ | refine nilk (fun h => absurd h (of_decide_eq_false rfl)) ?_ | refine nilk (fun h => absurd h (List.cons_ne_nil _ _)) ?_ | refine nilk (fun h => ?_) ?_ | exact rfl | exact True.intro | refine leftk1 rfl ?_ | refine bytk8 rfl ?_ | refine bytk rfl ?_ | exact leftk0 rfl | refine eqk rfl ?_ | refine fLm rfl ?_ | refine fLk (by assumption) ?_ | refine fVk ?_ | refine fLVk ?_ | refine fWk ?_ | intro hl))
         conv => whnf
         refine ⟨[0, 1, 2, 3, 4], rfl, ?_⟩
         conv => whnf
         exact ⟨⟨k + 1, l2, Y, true⟩, by rw [eK], rfl, ⟨⟨ke, kn2, ks, g2, g3⟩, hkn, hgx2, hnx⟩, hmk⟩
       ·rename_i c cs
        rw [hj0, if_pos (show (!true || !decide ((⟨⟨c :: cs⟩⟩ : ByteArray) = e0)) = true from rfl)] at hnx
        cases h2
        ·obtain rfl := ke rfl
         repeat' ((conv => whnf); (first | refine Bth.mk ?_ ?_ | refine csp_t (d1) ?_ | refine sda (d2) ?_ | refine csp_f (d3) ?_ | refine pickk0 ?_ | refine csp (fun h => ?_) (fun h => ?_) | refine cllo (ht) (fun _ => ?_) | refine conk hcv ?_ | (refine sda ?_ ?_; (focus (first | rfl | exact of_decide_eq_true rfl | (simp; done)))) | refine sda ?_ ?_ | refine conk rfl ?_ | refine ldk rfl ?_ | refine mapk (fun x hx => ?_) | exact ⟨rfl, rfl⟩ | refine nilk (fun h => absurd h (of_decide_eq_false rfl)) ?_ | refine nilk (fun h => absurd h (List.cons_ne_nil _ _)) ?_ | refine nilk (fun h => ?_) ?_ | exact rfl | exact True.intro | refine leftk1 rfl ?_ | refine bytk8 rfl ?_ | refine bytk rfl ?_ | exact leftk0 rfl | refine eqk rfl ?_ | refine fLm rfl ?_ | refine fLk (by assumption) ?_ | refine fVk ?_ | refine fLVk ?_ | refine fWk ?_ | intro hl))
         all_goals conv => whnf
         refine ⟨[0, 1, 2, 3, 5], rfl, ?_⟩
         conv => whnf
         refine ⟨⟨k + 1, [] ++ [⟨⟨c :: cs⟩⟩], Y, true⟩, by rw [eK], ?_, ⟨⟨fun q => (by cases q), kn3, ks2, g2, g3⟩, hkn, hgx2, hnx⟩, hmk⟩
         rfl
        ·repeat' ((conv => whnf); (first | refine Bth.mk ?_ ?_ | refine csp_t (d1) ?_ | refine sda (d2) ?_ | refine csp_f (d3) ?_ | refine pickk0 ?_ | refine csp (fun h => ?_) (fun h => ?_) | refine cllo (ht) (fun _ => ?_) | refine conk hcv ?_ | (refine sda ?_ ?_; (focus (first | rfl | exact of_decide_eq_true rfl | (simp; done)))) | refine sda ?_ ?_ | refine conk rfl ?_ | refine ldk rfl ?_ | refine mapk (fun x hx => ?_) | exact ⟨rfl, rfl⟩ | refine nilk (fun h => absurd h (of_decide_eq_false rfl)) ?_ | refine nilk (fun h => absurd h (List.cons_ne_nil _ _)) ?_ | refine nilk (fun h => ?_) ?_ | exact rfl | exact True.intro | refine leftk1 rfl ?_ | refine bytk8 rfl ?_ | refine bytk rfl ?_ | exact leftk0 rfl | refine eqk rfl ?_ | refine fLm rfl ?_ | refine fLk (by assumption) ?_ | refine fVk ?_ | refine fLVk ?_ | refine fWk ?_ | intro hl))
         all_goals conv => whnf
         ·refine Nat.le_trans (Nat.mul_le_mul_right _ (show (l2.map cS).length + 1 ≤ 100001 from ?_)) (by decide)
          rw [List.length_map]
          omega
         refine ⟨[0, 1, 2, 3, 6], rfl, ?_⟩
         conv => whnf
         refine ⟨⟨k + 1, l2 ++ [⟨⟨c :: cs⟩⟩], Y, true⟩, by rw [eK], ?_, ⟨⟨fun q => (by cases q), kn3, ks2, g2, g3⟩, hkn, hgx2, hnx⟩, hmk⟩
         show [cQ ⟨ls, Y⟩, O.box true [V.str d], O.box true [.int .i64 0, .int .i64 0, .str e0], O.box true [V.sl 4 0 ((l2.map cS).length + 1)], O.arr true 1 (l2.map cS ++ [[V.str ⟨⟨c :: cs⟩⟩]])] = Sj ls d ⟨k + 1, l2 ++ [⟨⟨c :: cs⟩⟩], Y, true⟩
         simp [Sj]
    ·have d1 : decide ((k : Int) < (((x.l.map cV).length : Nat) : Int)) = false := decide_eq_false (by omega)
     have hq : (l2, b2) = jv skip x.l l (jb x b) := by rw [← hjv, List.drop_eq_nil_of_le (by omega), jv]
     cases h2
     ·repeat' ((conv => whnf); (first | refine Bth.mk ?_ ?_ | refine csp_f (d1) ?_ | refine pickk0 ?_ | refine csp (fun h => ?_) (fun h => ?_) | (refine sda ?_ ?_; (focus (first | rfl | exact of_decide_eq_true rfl | (simp; done)))) | refine sda ?_ ?_ | refine conk rfl ?_ | refine ldk rfl ?_ | refine mapk (fun x hx => ?_) | exact ⟨rfl, rfl⟩ | refine nilk (fun h => absurd h (of_decide_eq_false rfl)) ?_ | refine nilk (fun h => absurd h (List.cons_ne_nil _ _)) ?_ | refine nilk (fun h => ?_) ?_ | exact rfl | exact True.intro | refine leftk1 rfl ?_ | refine bytk8 rfl ?_ | refine bytk rfl ?_ | exact leftk0 rfl | refine eqk rfl ?_ | refine fLm rfl ?_ | refine fLk (by assumption) ?_ | refine fVk ?_ | refine fLVk ?_ | refine fWk ?_ | intro hl))
      conv => whnf
      refine ⟨[0, 1, 2, 3], rfl, ?_⟩
      conv => whnf
      exact ⟨⟨i + 1, l2, b2, false⟩, by rw [eI], rfl, ⟨⟨ke, hn1, ks, kb⟩, hin, hout _ _ hq⟩, hmu⟩
     ·repeat' ((conv => whnf); (first | refine Bth.mk ?_ ?_ | refine csp_f (d1) ?_ | refine pickk0 ?_ | refine csp (fun h => ?_) (fun h => ?_) | (refine sda ?_ ?_; (focus (first | rfl | exact of_decide_eq_true rfl | (simp; done)))) | refine sda ?_ ?_ | refine conk rfl ?_ | refine ldk rfl ?_ | refine mapk (fun x hx => ?_) | exact ⟨rfl, rfl⟩ | refine nilk (fun h => absurd h (of_decide_eq_false rfl)) ?_ | refine nilk (fun h => absurd h (List.cons_ne_nil _ _)) ?_ | refine nilk (fun h => ?_) ?_ | exact rfl | exact True.intro | refine leftk1 rfl ?_ | refine bytk8 rfl ?_ | refine bytk rfl ?_ | exact leftk0 rfl | refine eqk rfl ?_ | refine fLm rfl ?_ | refine fLk (by assumption) ?_ | refine fVk ?_ | refine fLVk ?_ | refine fWk ?_ | intro hl))
      conv => whnf
      refine ⟨[0, 1, 2, 3, 4], rfl, ?_⟩
      conv => whnf
      exact ⟨⟨i + 1, l2, b2, true⟩, by rw [eI], rfl, ⟨⟨ke, hn1, ks, kb⟩, hin, hout _ _ hq⟩, hmu⟩
  ·have hie : i = ls.length := by omega
   subst hie
   have h1 : decide ((ls.length : Int) < (ls.length : Int)) = false := decide_eq_false (by omega)
   rw [List.drop_eq_nil_of_le (Nat.le_refl _), ja] at he
   have he1 : (ja skip ls [] b0).1 = l := by rw [← he]
   have he2 : (ja skip ls [] b0).2 = b := by rw [← he]
   rw [joinS, he1, he2]
   have hl9 : l.length ≤ 100000 := by
    have := sumA_le ls ls.length
    omega
   have hjn := Join_g l d hd hl9 js
   generalize joinB l d = J at *
   by_cases hb : 0 < b
   ·have d1 : decide (b > 0) = true := decide_eq_true hb
    rw [if_pos hb]
    cases h
    ·repeat' ((conv => whnf); (first | refine Bth.mk ?_ ?_ | refine csp_f (h1) ?_ | refine csp_t (d1) ?_ | refine pickk0 ?_ | refine csp (fun h => ?_) (fun h => ?_) | (apply clqi; apply rq_texts_asked_tells rfl) | refine cllo (value_Bad _) (fun _ => ?_) | (refine sda ?_ ?_; (focus (first | rfl | exact of_decide_eq_true rfl | (simp; done)))) | refine sda ?_ ?_ | refine conk rfl ?_ | refine ldk rfl ?_ | refine mapk (fun x hx => ?_) | exact ⟨rfl, rfl⟩ | refine nilk (fun h => absurd h (of_decide_eq_false rfl)) ?_ | refine nilk (fun h => absurd h (List.cons_ne_nil _ _)) ?_ | refine nilk (fun h => ?_) ?_ | exact rfl | exact True.intro | refine leftk1 rfl ?_ | refine bytk8 rfl ?_ | refine bytk rfl ?_ | exact leftk0 rfl | refine eqk rfl ?_ | refine fLm rfl ?_ | refine fLk (by assumption) ?_ | refine fVk ?_ | refine fLVk ?_ | refine fWk ?_ | intro hl))
     all_goals conv => whnf
     all_goals exact ⟨rfl, rfl⟩
    ·repeat' ((conv => whnf); (first | refine Bth.mk ?_ ?_ | refine csp_f (h1) ?_ | refine csp_t (d1) ?_ | refine pickk0 ?_ | refine csp (fun h => ?_) (fun h => ?_) | (apply clqi; apply rq_texts_asked_tells rfl) | refine cllo (value_Bad _) (fun _ => ?_) | (refine sda ?_ ?_; (focus (first | rfl | exact of_decide_eq_true rfl | (simp; done)))) | refine sda ?_ ?_ | refine conk rfl ?_ | refine ldk rfl ?_ | refine mapk (fun x hx => ?_) | exact ⟨rfl, rfl⟩ | refine nilk (fun h => absurd h (of_decide_eq_false rfl)) ?_ | refine nilk (fun h => absurd h (List.cons_ne_nil _ _)) ?_ | refine nilk (fun h => ?_) ?_ | exact rfl | exact True.intro | refine leftk1 rfl ?_ | refine bytk8 rfl ?_ | refine bytk rfl ?_ | exact leftk0 rfl | refine eqk rfl ?_ | refine fLm rfl ?_ | refine fLk (by assumption) ?_ | refine fVk ?_ | refine fLVk ?_ | refine fWk ?_ | intro hl))
     all_goals conv => whnf
     all_goals exact ⟨rfl, rfl⟩
   ·have d1 : decide (b > 0) = false := decide_eq_false hb
    rw [if_neg hb]
    cases h
    ·obtain rfl := je rfl
     repeat' ((conv => whnf); (first | refine Bth.mk ?_ ?_ | refine csp_f (h1) ?_ | refine csp_f (d1) ?_ | refine pickk0 ?_ | refine csp (fun h => ?_) (fun h => ?_) | (apply clqi; apply rq_texts_asked_tells rfl) | (apply clqi; apply rq_texts_joined_1 rfl) | refine cllo (hjn) (fun _ => ?_) | refine cllo (value_Str _) (fun _ => ?_) | (refine sda ?_ ?_; (focus (first | rfl | exact of_decide_eq_true rfl | (simp; done)))) | refine sda ?_ ?_ | refine conk rfl ?_ | refine ldk rfl ?_ | refine mapk (fun x hx => ?_) | exact ⟨rfl, rfl⟩ | refine nilk (fun h => absurd h (of_decide_eq_false rfl)) ?_ | refine nilk (fun h => absurd h (List.cons_ne_nil _ _)) ?_ | refine nilk (fun h => ?_) ?_ | exact rfl | exact True.intro | refine leftk1 rfl ?_ | refine bytk8 rfl ?_ | refine bytk rfl ?_ | exact leftk0 rfl | refine eqk rfl ?_ | refine fLm rfl ?_ | refine fLk (by assumption) ?_ | refine fVk ?_ | refine fLVk ?_ | refine fWk ?_ | intro hl))
     all_goals conv => whnf
     all_goals exact ⟨rfl, rfl⟩
    ·have hjn' : Ret Tryz.prog F_strings_Join [.row false (((l.map cS).drop 0).take l.length), .str d] (.str J) := by rw [tkn l l.length rfl]; exact hjn
     repeat' ((conv => whnf); (first | refine Bth.mk ?_ ?_ | refine csp_f (h1) ?_ | refine csp_f (d1) ?_ | refine pickk0 ?_ | refine csp (fun h => ?_) (fun h => ?_) | (apply clqi; apply rq_texts_asked_tells rfl) | (apply clqi; apply rq_texts_joined_1 rfl) | refine cllo (hjn') (fun _ => ?_) | refine cllo (value_Str _) (fun _ => ?_) | (refine sda ?_ ?_; (focus (first | rfl | exact of_decide_eq_true rfl | (simp; done)))) | refine sda ?_ ?_ | refine conk rfl ?_ | refine ldk rfl ?_ | refine mapk (fun x hx => ?_) | exact ⟨rfl, rfl⟩ | refine nilk (fun h => absurd h (of_decide_eq_false rfl)) ?_ | refine nilk (fun h => absurd h (List.cons_ne_nil _ _)) ?_ | refine nilk (fun h => ?_) ?_ | exact rfl | exact True.intro | refine leftk1 rfl ?_ | refine bytk8 rfl ?_ | refine bytk rfl ?_ | exact leftk0 rfl | refine eqk rfl ?_ | refine fLm rfl ?_ | refine fLk (by assumption) ?_ | refine fVk ?_ | refine fLVk ?_ | refine fWk ?_ | intro hl))
     all_goals conv => whnf
     all_goals exact ⟨rfl, rfl⟩
end Go.Proofs.YtcbknemdidehlaaGreatDoor
set_option maxRecDepth 100000
set_option linter.all false
namespace Go.Proofs.YtcbknemdidehlaaGreatDoor
open Ab R P Vl Go.RowKit Go.Proofs.YtcbknemdidehlaaGreatDoorW.PrintWords Go.Proofs.YtcbknemdidehlaaGreatDoorW.PrintLast
theorem concat_g (q : As) (hb : 0 ≤ q.b ∧ q.b ≤ 8) (hn : sumA q.l ≤ 100000) (hl : q.l.length ≤ 100000) : RetL Tryz.prog F_texts_find_7 [.ptr 0 0] [cQ q] (eV (joinS false e0 q.l q.b)) [cQ ⟨q.l, (ja false q.l [] q.b).2⟩] := by
 obtain ⟨l, b⟩ := q
 have hj := joined_c l b e0 false hb hn hl (by decide)
 refine rl_texts_find_7 rfl fun hw _ => ?_
 clear hw
 repeat' ((conv => whnf); (first | refine Bth.mk ?_ ?_ | refine pickk0 ?_ | refine csp (fun h => ?_) (fun h => ?_) | refine clll (RetL.frame (hj) _ [0] rfl (by simp) rfl rfl) (fun _ _ => ?_) | (refine sda ?_ ?_; (focus (first | rfl | exact of_decide_eq_true rfl | (simp; done)))) | refine sda ?_ ?_ | refine conk rfl ?_ | refine ldk rfl ?_ | refine mapk (fun x hx => ?_) | exact ⟨rfl, rfl⟩ | refine nilk (fun h => absurd h (of_decide_eq_false rfl)) ?_ | refine nilk (fun h => absurd h (List.cons_ne_nil _ _)) ?_ | refine nilk (fun h => ?_) ?_ | exact rfl | exact True.intro | refine leftk1 rfl ?_ | refine bytk8 rfl ?_ | refine bytk rfl ?_ | exact leftk0 rfl | refine eqk rfl ?_ | refine fLm rfl ?_ | refine fLk (by assumption) ?_ | refine fVk ?_ | refine fLVk ?_ | refine fWk ?_ | intro hl))
 all_goals conv => whnf
 all_goals exact ⟨rfl, rfl⟩
theorem up_size (s : ByteArray) : (Vl.up s).size = s.size := by
 show (strOfNums ((bytesOf s).map X.gUpper)).size = _
 rw [son_size, List.length_map, bytesOf_length]
theorem lo_size (s : ByteArray) : (Vl.lo s).size = s.size := by
 show (strOfNums ((bytesOf s).map X.gLower)).size = _
 rw [son_size, List.length_map, bytesOf_length]
theorem Upper_c (s : ByteArray) (h : s.size ≤ 1048576) : Ret Tryz.prog F_value_Upper [.str s] (.str (Vl.up s)) := c_value_Upper _ _ (Vl.Upper_is (by omega)) (by rw [up_size]; omega)
theorem Lower_c (s : ByteArray) (h : s.size ≤ 1048576) : Ret Tryz.prog F_value_Lower [.str s] (.str (Vl.lo s)) := c_value_Lower _ _ (Vl.Lower_is (by omega)) (by rw [lo_size]; omega)
end Go.Proofs.YtcbknemdidehlaaGreatDoor
set_option maxRecDepth 100000
set_option linter.all false
namespace Go.Proofs.YtcbknemdidehlaaGreatDoor
open Ab R P Vl Go.RowKit
theorem Ab.Ret.callsG {P : Program} {f : FuncId} {args : List V} {vs : List Value} {r : V} {x : Value} (hcall : ∀ ar w, (callFunc f ar).run P w = .ok (.enter f ar) w) (ha : Sames args vs) (hr : Fits r x) (hg : 0 ∈ gvars)
  (h : ∀ (w : World) (n : Int), w.cell? ⟨0, 0, none⟩ = some (.int .i64 n) → Calls P f vs.toArray w fun e w' => e = .returned x ∧ Below w.heap.size w w') : Ret P f args r := by
 intro m w ys hG hm rv
 rw [sames_repL ha rv]
 unfold CallsX
 rw [hcall]
 obtain ⟨n, hn⟩ := hG 0 hg
 refine (h w n (hm _ _ _ hn)).mono fun e w' ⟨he, hb⟩ => ⟨x, he, m, fun _ _ _ q => q, fun b o v hv => ?_, hr m, hb, fun b o y hy hn => by rw [hy] at hn; cases hn⟩
 rw [World.cell?_of_block (w := w) (a := ⟨b, o, none⟩) (hb.block b (hm.lt hv))]
 exact hm b o v hv
theorem g0 : 0 ∈ gvars := List.mem_singleton.2 rfl
def repAB (s t u : ByteArray) : ByteArray := ⟨(Lib.replaceAll s.data.toList t.data.toList u.data.toList).toArray⟩
theorem ReplaceAll_c (s t u : ByteArray) (hs : s.size ≤ 255) (ht : 1 ≤ t.size) (hu : u.size ≤ 255) (hz : (repAB s t u).size ≤ 140737488355328) : Ret Tryz.prog F_strings_ReplaceAll [.str s, .str t, .str u] (.str (repAB s t u)) := by
 refine Ab.Ret.callsG Tryz.call133 (vs := [.string s, .string t, .string u]) (x := .string (repAB s t u)) ⟨same_str s, same_str t, same_str u, True.intro⟩ (fits_str (by omega)) g0 (fun w n hn => ?_)
 have h9 := Lib.countB_le t ht s.size s (Nat.le_refl _)
 refine Tryz.strings_ReplaceAll s t u n w (by omega) hn ht ?_
 have : Lib.countB s t * u.size ≤ 255 * 255 := Nat.mul_le_mul (by omega) hu
 omega
theorem size_pos {t : ByteArray} (h : t ≠ e0) : 1 ≤ t.size := by
 rcases Nat.eq_zero_or_pos t.size with q | q
 ·refine absurd ?_ h
  apply ByteArray.ext
  exact Array.eq_empty_of_size_eq_zero q
 ·exact q
theorem fndS_at (t : ByteArray) : ∀ (l : List ByteArray) (k : Int), fndS t l k = badS 2 ∨ ∃ j : Nat, j ≤ l.length ∧ fndS t l k = ⟨1, (k + j) * 10000, e0⟩ ∧ preB (catL (l.drop j)) t = true
 | [], k => by
  by_cases h : preB (catL []) t = true
  ·exact .inr ⟨0, Nat.le_refl _, by rw [fndS, if_pos h]; simp, h⟩
  ·exact .inl (by rw [fndS, if_neg h])
 | c :: l, k => by
  by_cases h : preB (catL (c :: l)) t = true
  ·exact .inr ⟨0, Nat.zero_le _, by rw [fndS, if_pos h]; simp, h⟩
  ·rcases fndS_at t l (k + 1) with q | ⟨j, h1, h2, h3⟩
   ·exact .inl (by rw [fndS, if_neg h, q])
   ·refine .inr ⟨j + 1, by simp; omega, ?_, h3⟩
    rw [fndS, if_neg h, h2]
    congr 2
    omega
end Go.Proofs.YtcbknemdidehlaaGreatDoor
set_option maxRecDepth 100000
set_option linter.all false
namespace Go.Proofs.YtcbknemdidehlaaGreatDoor
open Ab R P Vl
structure OkQ (q : As) : Prop where
 b : 0 ≤ q.b ∧ q.b ≤ 8
 n : sumA q.l ≤ 400
 l : q.l.length ≤ 400
theorem OkQ.tail {a : Ar} {l : List Ar} {b b' : Int} (h : OkQ ⟨a :: l, b⟩) (hb : 0 ≤ b' ∧ b' ≤ 8) : OkQ ⟨l, b'⟩ := by
 obtain ⟨_, h2, h3⟩ := h
 refine ⟨hb, ?_, ?_⟩
 ·simp only [sumA, List.map_cons, List.sum_cons] at h2 ⊢
  omega
 ·simp only [List.length_cons] at h3
  show l.length ≤ 400
  omega
theorem txS_ok {q : As} (h : OkQ q) : (txS q).1.size ≤ 255 ∧ OkQ (txS q).2 := by
 obtain ⟨l, b⟩ := q
 cases l with
 | nil => exact ⟨Nat.zero_le _, h⟩
 | cons a l =>
  by_cases hb : 0 < b
  ·rw [txS, if_pos hb]
   exact ⟨Nat.zero_le _, h⟩
  ·rw [txS, if_neg hb]
   obtain ⟨g1, g2, g3⟩ := tx_good (oneS_good a)
   exact ⟨g1, h.tail ⟨g2, g3⟩⟩
theorem nmS_ok {q : As} (h : OkQ q) : goodN (nmS q).1 = true ∧ OkQ (nmS q).2 := by
 obtain ⟨l, b⟩ := q
 cases l with
 | nil => exact ⟨rfl, h⟩
 | cons a l =>
  by_cases hb : 0 < b
  ·rw [nmS, if_pos hb]
   exact ⟨rfl, h⟩
  ·rw [nmS, if_neg hb]
   obtain ⟨g1, g2, g3, _⟩ := tn_good (oneS_good a)
   exact ⟨g1, h.tail ⟨g2, g3⟩⟩
theorem fgS_ok {q : As} (h : OkQ q) : OkQ (fgS q).2 := by
 obtain ⟨l, b⟩ := q
 cases l with
 | nil => exact h
 | cons a l =>
  by_cases hb : 0 < b
  ·rw [fgS, if_pos hb]
   exact h
  ·rw [fgS, if_neg hb]
   obtain ⟨g2, g3⟩ := tb_good (oneS_good a)
   exact h.tail ⟨g2, g3⟩
theorem whS_ok {q : As} {d : Int} (h : OkQ q) (hd : -10000000 ≤ d ∧ d ≤ 10000000) : (-10000000 ≤ (whS18 d q).1 ∧ (whS18 d q).1 ≤ 10000000) ∧ OkQ (whS18 d q).2 := by
 obtain ⟨l, b⟩ := q
 cases l with
 | nil => exact ⟨hd, h⟩
 | cons a l =>
  obtain ⟨g1, g2, g3, _⟩ := tn_good (oneS_good a)
  have z0 : -10000000 ≤ (0 : Int) ∧ (0 : Int) ≤ 10000000 := by decide
  by_cases hb : 0 < b
  ·rw [whS18, if_pos hb]
   exact ⟨z0, h⟩
  ·rw [whS18, if_neg hb]
   by_cases ht : 0 < (tn (oneS a)).2
   ·rw [if_pos ht]
    exact ⟨z0, h.tail ⟨g2, g3⟩⟩
   ·rw [if_neg ht]
    refine ⟨?_, h.tail ?_⟩
    ·show -10000000 ≤ (wholeS (tn (oneS a)).1).1 ∧ (wholeS (tn (oneS a)).1).1 ≤ 10000000
     unfold wholeS
     split
     ·exact tdivb g1
     ·exact z0
    ·split
     ·exact ⟨g2, g3⟩
     ·decide
def G1 (f : FuncId) (caps : List V) : Prop := ∀ q, OkQ q → ∃ (v : GV) (x : Bool) (q' : As), goodV v = true ∧ RetL Tryz.prog f (.ptr 0 0 :: caps) [cQ q] (eV v) [.box x [.row false (q'.l.map cA), .int .i64 q'.b]]
theorem strS_good (s : ByteArray) : goodV (strS s) = true := by
 unfold strS
 split
 ·exact goodV_bad 2
 ·exact good_s (by omega)
theorem ofS_good (n : Int) (b : Bool) : goodV (ofS n b) = true := by
 unfold ofS
 split
 ·rename_i h
  simp only [Bool.and_eq_true] at h
  simp [goodV, h.2]
 ·exact goodV_bad 5
theorem g_texted (g : FuncId) (hf : ∀ s : ByteArray, s.size ≤ 255 → ∃ v : GV, goodV v = true ∧ Ret Tryz.prog g [.str s] (eV v)) : G1 F_texts_texted_1 [.elem [.fn g [] []]] := by
 intro q hq
 have t1 := text_g q
 obtain ⟨h1, hq1⟩ := txS_ok hq
 generalize txS q = p at *
 obtain ⟨s, l, b⟩ := p
 dsimp only at h1 hq1
 by_cases hb : 0 < b
 ·have d1 : decide (b > 0) = true := decide_eq_true hb
  refine ⟨badS b, true, ⟨l, b⟩, goodV_bad b, ?_⟩
  refine rl_texts_texted_1 rfl fun hw9 _ => ?_
  clear hw9
  repeat' ((conv => whnf); (first | refine Bth.mk ?_ ?_ | refine csp_t (d1) ?_ | refine pickk0 ?_ | refine csp (fun h => ?_) (fun h => ?_) | refine clll (RetL.frame (t1) _ [0] rfl (by simp) rfl rfl) (fun _ _ => ?_) | (apply clqi; apply rq_texts_asked_tells rfl) | refine cllo (value_Bad _) (fun _ => ?_) | (refine sda ?_ ?_; (focus (first | rfl | exact of_decide_eq_true rfl | (simp; done)))) | refine sda ?_ ?_ | refine conk rfl ?_ | refine ldk rfl ?_ | refine mapk (fun x hx => ?_) | exact ⟨rfl, rfl⟩ | refine nilk (fun h => absurd h (of_decide_eq_false rfl)) ?_ | refine nilk (fun h => absurd h (List.cons_ne_nil _ _)) ?_ | refine nilk (fun h => ?_) ?_ | exact rfl | exact True.intro | refine leftk1 rfl ?_ | refine bytk8 rfl ?_ | refine bytk rfl ?_ | exact leftk0 rfl | refine eqk rfl ?_ | refine fLm rfl ?_ | refine fLk (by assumption) ?_ | refine fVk ?_ | refine fLVk ?_ | refine fWk ?_ | intro hl))
  all_goals conv => whnf
  all_goals exact ⟨rfl, rfl⟩
 ·have d1 : decide (b > 0) = false := decide_eq_false hb
  obtain ⟨v, hv, hr⟩ := hf s h1
  refine ⟨v, true, ⟨l, b⟩, hv, ?_⟩
  refine rl_texts_texted_1 rfl fun hw9 _ => ?_
  clear hw9
  repeat' ((conv => whnf); (first | refine Bth.mk ?_ ?_ | refine csp_f (d1) ?_ | refine pickk0 ?_ | refine csp (fun h => ?_) (fun h => ?_) | refine clll (RetL.frame (t1) _ [0] rfl (by simp) rfl rfl) (fun _ _ => ?_) | (apply clqi; apply rq_texts_asked_tells rfl) | (apply clqi; apply rq_texts_texted_1_1 rfl) | refine cllo (hr) (fun _ => ?_) | (refine sda ?_ ?_; (focus (first | rfl | exact of_decide_eq_true rfl | (simp; done)))) | refine sda ?_ ?_ | refine conk rfl ?_ | refine ldk rfl ?_ | refine mapk (fun x hx => ?_) | exact ⟨rfl, rfl⟩ | refine nilk (fun h => absurd h (of_decide_eq_false rfl)) ?_ | refine nilk (fun h => absurd h (List.cons_ne_nil _ _)) ?_ | refine nilk (fun h => ?_) ?_ | exact rfl | exact True.intro | refine leftk1 rfl ?_ | refine bytk8 rfl ?_ | refine bytk rfl ?_ | exact leftk0 rfl | refine eqk rfl ?_ | refine fLm rfl ?_ | refine fLk (by assumption) ?_ | refine fVk ?_ | refine fLVk ?_ | refine fWk ?_ | intro hl))
  all_goals conv => whnf
  all_goals exact ⟨rfl, rfl⟩
theorem g_made (g : FuncId) (hf : ∀ s : ByteArray, s.size ≤ 255 → ∃ y : ByteArray, Ret Tryz.prog g [.str s] (.str y)) : G1 F_texts_texted_1 [.elem [.fn F_texts_made_1 [] [.elem [.fn g [] []]]]] := by
 intro q hq
 have t1 := text_g q
 obtain ⟨h1, hq1⟩ := txS_ok hq
 generalize txS q = p at *
 obtain ⟨s, l, b⟩ := p
 dsimp only at h1 hq1
 by_cases hb : 0 < b
 ·have d1 : decide (b > 0) = true := decide_eq_true hb
  refine ⟨badS b, true, ⟨l, b⟩, goodV_bad b, ?_⟩
  refine rl_texts_texted_1 rfl fun hw9 _ => ?_
  clear hw9
  repeat' ((conv => whnf); (first | refine Bth.mk ?_ ?_ | refine csp_t (d1) ?_ | refine pickk0 ?_ | refine csp (fun h => ?_) (fun h => ?_) | refine clll (RetL.frame (t1) _ [0] rfl (by simp) rfl rfl) (fun _ _ => ?_) | (apply clqi; apply rq_texts_asked_tells rfl) | refine cllo (value_Bad _) (fun _ => ?_) | (refine sda ?_ ?_; (focus (first | rfl | exact of_decide_eq_true rfl | (simp; done)))) | refine sda ?_ ?_ | refine conk rfl ?_ | refine ldk rfl ?_ | refine mapk (fun x hx => ?_) | exact ⟨rfl, rfl⟩ | refine nilk (fun h => absurd h (of_decide_eq_false rfl)) ?_ | refine nilk (fun h => absurd h (List.cons_ne_nil _ _)) ?_ | refine nilk (fun h => ?_) ?_ | exact rfl | exact True.intro | refine leftk1 rfl ?_ | refine bytk8 rfl ?_ | refine bytk rfl ?_ | exact leftk0 rfl | refine eqk rfl ?_ | refine fLm rfl ?_ | refine fLk (by assumption) ?_ | refine fVk ?_ | refine fLVk ?_ | refine fWk ?_ | intro hl))
  all_goals conv => whnf
  all_goals exact ⟨rfl, rfl⟩
 ·have d1 : decide (b > 0) = false := decide_eq_false hb
  obtain ⟨y, hr⟩ := hf s h1
  refine ⟨strS y, true, ⟨l, b⟩, strS_good y, ?_⟩
  refine rl_texts_texted_1 rfl fun hw9 _ => ?_
  clear hw9
  repeat' ((conv => whnf); (first | refine Bth.mk ?_ ?_ | refine csp_f (d1) ?_ | refine pickk0 ?_ | refine csp (fun h => ?_) (fun h => ?_) | refine clll (RetL.frame (t1) _ [0] rfl (by simp) rfl rfl) (fun _ _ => ?_) | (apply clqi; apply rq_texts_asked_tells rfl) | (apply clqi; apply rq_texts_texted_1_1 rfl) | (apply clqi; apply rq_texts_made_1 rfl) | refine cllo (hr) (fun _ => ?_) | refine cllo (value_Str _) (fun _ => ?_) | (refine sda ?_ ?_; (focus (first | rfl | exact of_decide_eq_true rfl | (simp; done)))) | refine sda ?_ ?_ | refine conk rfl ?_ | refine ldk rfl ?_ | refine mapk (fun x hx => ?_) | exact ⟨rfl, rfl⟩ | refine nilk (fun h => absurd h (of_decide_eq_false rfl)) ?_ | refine nilk (fun h => absurd h (List.cons_ne_nil _ _)) ?_ | refine nilk (fun h => ?_) ?_ | exact rfl | exact True.intro | refine leftk1 rfl ?_ | refine bytk8 rfl ?_ | refine bytk rfl ?_ | exact leftk0 rfl | refine eqk rfl ?_ | refine fLm rfl ?_ | refine fLk (by assumption) ?_ | refine fVk ?_ | refine fLVk ?_ | refine fWk ?_ | intro hl))
  all_goals conv => whnf
  all_goals exact ⟨rfl, rfl⟩
theorem f_len (s : ByteArray) (hs : s.size ≤ 255) : ∃ v : GV, goodV v = true ∧ Ret Tryz.prog F_texts_find_1 [.str s] (eV v) := by
 have hc := Chars_c s (by omega)
 have h9 := (sm_chars hs).len
 generalize Vl.chars s = l at *
 have hlm : (l.map cS).length = l.length := List.length_map _
 refine ⟨⟨1, (l.length : Int) * 10000, e0⟩, good_n ⟨by omega, by omega⟩, ?_⟩
 refine r_texts_find_1 rfl fun hw9 => ?_
 clear hw9
 repeat' ((conv => whnf); (first | refine Bth.mk ?_ ?_ | refine pickk0 ?_ | refine csp (fun h => ?_) (fun h => ?_) | refine cllo (hc) (fun _ => ?_) | refine cllo (texts_whole_c _ (by omega)) (fun _ => ?_) | (refine sda ?_ ?_; (focus (first | rfl | exact of_decide_eq_true rfl | (simp; done)))) | refine sda ?_ ?_ | refine conk rfl ?_ | refine ldk rfl ?_ | refine mapk (fun x hx => ?_) | exact ⟨rfl, rfl⟩ | refine nilk (fun h => absurd h (of_decide_eq_false rfl)) ?_ | refine nilk (fun h => absurd h (List.cons_ne_nil _ _)) ?_ | refine nilk (fun h => ?_) ?_ | exact rfl | exact True.intro | refine leftk1 rfl ?_ | refine bytk8 rfl ?_ | refine bytk rfl ?_ | exact leftk0 rfl | refine eqk rfl ?_ | refine fLm rfl ?_ | refine fLk (by assumption) ?_ | refine fVk ?_ | refine fLVk ?_ | refine fWk ?_ | intro hl))
 all_goals conv => whnf
 rw [hlm]
theorem code_g (s : ByteArray) (hs : s.size ≤ 255) : ∃ v : GV, goodV v = true ∧ Ret Tryz.prog F_texts_code [.str s] (eV v) := by
 by_cases h : 0 < s.size
 ·have d1 : decide (0 < s.size) = true := decide_eq_true h
  have hw := X.dec_facts s 0 h
  have hc := (X.dec_facts s 0 h).2.2.2.1
  refine ⟨⟨1, ((Utf8.decode s 0).1 : Int) * 10000, e0⟩, good_n ⟨by omega, by omega⟩, ?_⟩
  have e1 : IntKind.i64.wrap ((Utf8.decode s 0).1 : Int) = (Utf8.decode s 0).1 := w64 (by omega)
  have ht := texts_whole_c ((Utf8.decode s 0).1 : Int) (by omega)
  rw [← e1] at ht
  refine r_texts_code rfl fun hw9 => ?_
  clear hw9
  repeat' ((conv => whnf); (first | refine Bth.mk ?_ ?_ | refine csp_t (d1) ?_ | refine pickk0 ?_ | refine csp (fun h => ?_) (fun h => ?_) | refine Or.inr (Or.inl ⟨2, ?_⟩) | refine cllo (ht) (fun _ => ?_) | refine cllo (value_Bad _) (fun _ => ?_) | (refine sda ?_ ?_; (focus (first | rfl | exact of_decide_eq_true rfl | (simp; done)))) | refine sda ?_ ?_ | refine conk rfl ?_ | refine ldk rfl ?_ | refine mapk (fun x hx => ?_) | exact ⟨rfl, rfl⟩ | refine nilk (fun h => absurd h (of_decide_eq_false rfl)) ?_ | refine nilk (fun h => absurd h (List.cons_ne_nil _ _)) ?_ | refine nilk (fun h => ?_) ?_ | exact rfl | exact True.intro | refine leftk1 rfl ?_ | refine bytk8 rfl ?_ | refine bytk rfl ?_ | exact leftk0 rfl | refine eqk rfl ?_ | refine fLm rfl ?_ | refine fLk (by assumption) ?_ | refine fVk ?_ | refine fLVk ?_ | refine fWk ?_ | intro hl))
  all_goals conv => whnf
  ·exact (by omega : s.size ≤ 9223372036854775807)
  ·show eV ⟨1, IntKind.i64.wrap ((Utf8.decode s 0).1 : Int) * 10000, e0⟩ = _
   rw [e1]
 ·have d1 : decide (0 < s.size) = false := decide_eq_false h
  refine ⟨badS 2, goodV_bad 2, ?_⟩
  refine r_texts_code rfl fun hw9 => ?_
  clear hw9
  repeat' ((conv => whnf); (first | refine Bth.mk ?_ ?_ | refine csp_f (d1) ?_ | refine pickk0 ?_ | refine csp (fun h => ?_) (fun h => ?_) | refine Or.inr (Or.inl ⟨2, ?_⟩) | refine cllo (value_Bad _) (fun _ => ?_) | (refine sda ?_ ?_; (focus (first | rfl | exact of_decide_eq_true rfl | (simp; done)))) | refine sda ?_ ?_ | refine conk rfl ?_ | refine ldk rfl ?_ | refine mapk (fun x hx => ?_) | exact ⟨rfl, rfl⟩ | refine nilk (fun h => absurd h (of_decide_eq_false rfl)) ?_ | refine nilk (fun h => absurd h (List.cons_ne_nil _ _)) ?_ | refine nilk (fun h => ?_) ?_ | exact rfl | exact True.intro | refine leftk1 rfl ?_ | refine bytk8 rfl ?_ | refine bytk rfl ?_ | exact leftk0 rfl | refine eqk rfl ?_ | refine fLm rfl ?_ | refine fLk (by assumption) ?_ | refine fVk ?_ | refine fLVk ?_ | refine fWk ?_ | intro hl))
  all_goals conv => whnf
theorem value_g (s : ByteArray) (hs : s.size ≤ 255) : ∃ v : GV, goodV v = true ∧ Ret Tryz.prog F_texts_find_2 [.str s] (eV v) := by
 have ht := ToNum_g ⟨2, 0, s⟩ (good_s hs)
 generalize tn ⟨2, 0, s⟩ = p at *
 obtain ⟨n, b⟩ := p
 by_cases hb : 0 < b
 ·have d1 : decide (b > 0) = true := decide_eq_true hb
  refine ⟨badS b, goodV_bad b, ?_⟩
  refine r_texts_find_2 rfl fun hw9 => ?_
  clear hw9
  repeat' ((conv => whnf); (first | refine Bth.mk ?_ ?_ | refine csp_t (d1) ?_ | refine pickk0 ?_ | refine csp (fun h => ?_) (fun h => ?_) | refine cllo (ht) (fun _ => ?_) | refine cllo (value_Bad _) (fun _ => ?_) | (refine sda ?_ ?_; (focus (first | rfl | exact of_decide_eq_true rfl | (simp; done)))) | refine sda ?_ ?_ | refine conk rfl ?_ | refine ldk rfl ?_ | refine mapk (fun x hx => ?_) | exact ⟨rfl, rfl⟩ | refine nilk (fun h => absurd h (of_decide_eq_false rfl)) ?_ | refine nilk (fun h => absurd h (List.cons_ne_nil _ _)) ?_ | refine nilk (fun h => ?_) ?_ | exact rfl | exact True.intro | refine leftk1 rfl ?_ | refine bytk8 rfl ?_ | refine bytk rfl ?_ | exact leftk0 rfl | refine eqk rfl ?_ | refine fLm rfl ?_ | refine fLk (by assumption) ?_ | refine fVk ?_ | refine fLVk ?_ | refine fWk ?_ | intro hl))
  all_goals conv => whnf
  all_goals rfl
 ·have d1 : decide (b > 0) = false := decide_eq_false hb
  refine ⟨ofS n true, ofS_good _ _, ?_⟩
  refine r_texts_find_2 rfl fun hw9 => ?_
  clear hw9
  repeat' ((conv => whnf); (first | refine Bth.mk ?_ ?_ | refine csp_f (d1) ?_ | refine pickk0 ?_ | refine csp (fun h => ?_) (fun h => ?_) | refine cllo (ht) (fun _ => ?_) | refine cllo (value_Of _ _) (fun _ => ?_) | (refine sda ?_ ?_; (focus (first | rfl | exact of_decide_eq_true rfl | (simp; done)))) | refine sda ?_ ?_ | refine conk rfl ?_ | refine ldk rfl ?_ | refine mapk (fun x hx => ?_) | exact ⟨rfl, rfl⟩ | refine nilk (fun h => absurd h (of_decide_eq_false rfl)) ?_ | refine nilk (fun h => absurd h (List.cons_ne_nil _ _)) ?_ | refine nilk (fun h => ?_) ?_ | exact rfl | exact True.intro | refine leftk1 rfl ?_ | refine bytk8 rfl ?_ | refine bytk rfl ?_ | exact leftk0 rfl | refine eqk rfl ?_ | refine fLm rfl ?_ | refine fLk (by assumption) ?_ | refine fVk ?_ | refine fLVk ?_ | refine fWk ?_ | intro hl))
  all_goals conv => whnf
  all_goals rfl
end Go.Proofs.YtcbknemdidehlaaGreatDoor
set_option maxRecDepth 100000
set_option linter.all false
namespace Go.Proofs.YtcbknemdidehlaaGreatDoor
open Ab R P Vl
theorem g_kept (k : Int) (g : FuncId) (hf : ∀ v : GV, goodV v = true → ∃ u : GV, goodV u = true ∧ Ret Tryz.prog g [eV v] (eV u)) : G1 F_texts_kept_1 [.elem [.int .i64 k], .elem [.fn g [] []]] := by
 intro q hq
 obtain ⟨v, b, q', hgv, hn⟩ : ∃ (v : GV) (b : Bool) (q' : As), goodV v = true ∧ RetL Tryz.prog F_texts_asked_next [.ptr 0 0] [cQ q] (.tup [eV v, .bool b]) [cQ q'] := by
  obtain ⟨l, b⟩ := q
  by_cases h : 0 < b ∨ l = []
  ·exact ⟨_, _, _, by decide, next_g2 l b h⟩
  ·cases l with
   | nil => exact absurd (.inr rfl) h
   | cons a l => exact ⟨_, _, _, oneS_good a, next_g1 a l b fun q => h (.inl q)⟩
 by_cases h1 : v.k = k
 ·have d1 : decide (v.k = k) = true := decide_eq_true h1
  refine ⟨v, true, q', hgv, ?_⟩
  refine rl_texts_kept_1 rfl fun hw9 _ => ?_
  clear hw9
  repeat' ((conv => whnf); (first | refine Bth.mk ?_ ?_ | refine csp_t (d1) ?_ | refine pickk0 ?_ | refine csp (fun h => ?_) (fun h => ?_) | refine clll (RetL.frame (hn) _ [0] rfl (by simp) rfl rfl) (fun _ _ => ?_) | (refine sda ?_ ?_; (focus (first | rfl | exact of_decide_eq_true rfl | (simp; done)))) | refine sda ?_ ?_ | refine conk rfl ?_ | refine ldk rfl ?_ | refine mapk (fun x hx => ?_) | exact ⟨rfl, rfl⟩ | refine nilk (fun h => absurd h (of_decide_eq_false rfl)) ?_ | refine nilk (fun h => absurd h (List.cons_ne_nil _ _)) ?_ | refine nilk (fun h => ?_) ?_ | exact rfl | exact True.intro | refine leftk1 rfl ?_ | refine bytk8 rfl ?_ | refine bytk rfl ?_ | exact leftk0 rfl | refine eqk rfl ?_ | refine fLm rfl ?_ | refine fLk (by assumption) ?_ | refine fVk ?_ | refine fLVk ?_ | refine fWk ?_ | intro hl))
  all_goals conv => whnf
  all_goals exact ⟨rfl, rfl⟩
 ·have d1 : decide (v.k = k) = false := decide_eq_false h1
  by_cases h2 : v.k = 4
  ·have d2 : decide (v.k = 4) = true := decide_eq_true h2
   refine ⟨v, true, q', hgv, ?_⟩
   refine rl_texts_kept_1 rfl fun hw9 _ => ?_
   clear hw9
   repeat' ((conv => whnf); (first | refine Bth.mk ?_ ?_ | refine csp_f (d1) ?_ | refine csp_t (d2) ?_ | refine pickk0 ?_ | refine csp (fun h => ?_) (fun h => ?_) | refine clll (RetL.frame (hn) _ [0] rfl (by simp) rfl rfl) (fun _ _ => ?_) | (refine sda ?_ ?_; (focus (first | rfl | exact of_decide_eq_true rfl | (simp; done)))) | refine sda ?_ ?_ | refine conk rfl ?_ | refine ldk rfl ?_ | refine mapk (fun x hx => ?_) | exact ⟨rfl, rfl⟩ | refine nilk (fun h => absurd h (of_decide_eq_false rfl)) ?_ | refine nilk (fun h => absurd h (List.cons_ne_nil _ _)) ?_ | refine nilk (fun h => ?_) ?_ | exact rfl | exact True.intro | refine leftk1 rfl ?_ | refine bytk8 rfl ?_ | refine bytk rfl ?_ | exact leftk0 rfl | refine eqk rfl ?_ | refine fLm rfl ?_ | refine fLk (by assumption) ?_ | refine fVk ?_ | refine fLVk ?_ | refine fWk ?_ | intro hl))
   all_goals conv => whnf
   all_goals exact ⟨rfl, rfl⟩
  ·have d2 : decide (v.k = 4) = false := decide_eq_false h2
   obtain ⟨u, hgu, hr⟩ := hf v hgv
   refine ⟨u, true, q', hgu, ?_⟩
   refine rl_texts_kept_1 rfl fun hw9 _ => ?_
   clear hw9
   repeat' ((conv => whnf); (first | refine Bth.mk ?_ ?_ | refine csp_f (d1) ?_ | refine csp_f (d2) ?_ | refine pickk0 ?_ | refine csp (fun h => ?_) (fun h => ?_) | refine clll (RetL.frame (hn) _ [0] rfl (by simp) rfl rfl) (fun _ _ => ?_) | refine cllo (hr) (fun _ => ?_) | (refine sda ?_ ?_; (focus (first | rfl | exact of_decide_eq_true rfl | (simp; done)))) | refine sda ?_ ?_ | refine conk rfl ?_ | refine ldk rfl ?_ | refine mapk (fun x hx => ?_) | exact ⟨rfl, rfl⟩ | refine nilk (fun h => absurd h (of_decide_eq_false rfl)) ?_ | refine nilk (fun h => absurd h (List.cons_ne_nil _ _)) ?_ | refine nilk (fun h => ?_) ?_ | exact rfl | exact True.intro | refine leftk1 rfl ?_ | refine bytk8 rfl ?_ | refine bytk rfl ?_ | exact leftk0 rfl | refine eqk rfl ?_ | refine fLm rfl ?_ | refine fLk (by assumption) ?_ | refine fVk ?_ | refine fLVk ?_ | refine fWk ?_ | intro hl))
   all_goals conv => whnf
   all_goals exact ⟨rfl, rfl⟩
theorem f_T (v : GV) (h : goodV v = true) : ∃ u : GV, goodV u = true ∧ Ret Tryz.prog F_texts_find_3 [eV v] (eV u) := by
 refine ⟨strS e0, strS_good _, ?_⟩
 refine r_texts_find_3 rfl fun hw9 => ?_
 clear hw9
 repeat' ((conv => whnf); (first | refine Bth.mk ?_ ?_ | refine pickk0 ?_ | refine csp (fun h => ?_) (fun h => ?_) | refine cllo (value_Str _) (fun _ => ?_) | (refine sda ?_ ?_; (focus (first | rfl | exact of_decide_eq_true rfl | (simp; done)))) | refine sda ?_ ?_ | refine conk rfl ?_ | refine ldk rfl ?_ | refine mapk (fun x hx => ?_) | exact ⟨rfl, rfl⟩ | refine nilk (fun h => absurd h (of_decide_eq_false rfl)) ?_ | refine nilk (fun h => absurd h (List.cons_ne_nil _ _)) ?_ | refine nilk (fun h => ?_) ?_ | exact rfl | exact True.intro | refine leftk1 rfl ?_ | refine bytk8 rfl ?_ | refine bytk rfl ?_ | exact leftk0 rfl | refine eqk rfl ?_ | refine fLm rfl ?_ | refine fLk (by assumption) ?_ | refine fVk ?_ | refine fLVk ?_ | refine fWk ?_ | intro hl))
 all_goals conv => whnf
theorem f_N (v : GV) (h : goodV v = true) : ∃ u : GV, goodV u = true ∧ Ret Tryz.prog F_texts_find_4 [eV v] (eV u) := by
 have hb := goodV_n h
 by_cases h3 : v.k = 3
 ·have d3 : decide (v.k = 3) = true := decide_eq_true h3
  have hn : v.n = 0 ∨ v.n = 1 := by
   simp [goodV, h3] at h
   exact h.1
  refine ⟨⟨1, v.n * 10000, e0⟩, good_n ⟨by omega, by omega⟩, ?_⟩
  refine r_texts_find_4 rfl fun hw9 => ?_
  clear hw9
  repeat' ((conv => whnf); (first | refine Bth.mk ?_ ?_ | refine csp_t (d3) ?_ | refine pickk0 ?_ | refine csp (fun h => ?_) (fun h => ?_) | refine cllo (texts_whole_c _ (by omega)) (fun _ => ?_) | (refine sda ?_ ?_; (focus (first | rfl | exact of_decide_eq_true rfl | (simp; done)))) | refine sda ?_ ?_ | refine conk rfl ?_ | refine ldk rfl ?_ | refine mapk (fun x hx => ?_) | exact ⟨rfl, rfl⟩ | refine nilk (fun h => absurd h (of_decide_eq_false rfl)) ?_ | refine nilk (fun h => absurd h (List.cons_ne_nil _ _)) ?_ | refine nilk (fun h => ?_) ?_ | exact rfl | exact True.intro | refine leftk1 rfl ?_ | refine bytk8 rfl ?_ | refine bytk rfl ?_ | exact leftk0 rfl | refine eqk rfl ?_ | refine fLm rfl ?_ | refine fLk (by assumption) ?_ | refine fVk ?_ | refine fLVk ?_ | refine fWk ?_ | intro hl))
  all_goals conv => whnf
 ·have d3 : decide (v.k = 3) = false := decide_eq_false h3
  refine ⟨⟨1, 0 * 10000, e0⟩, by decide, ?_⟩
  refine r_texts_find_4 rfl fun hw9 => ?_
  clear hw9
  repeat' ((conv => whnf); (first | refine Bth.mk ?_ ?_ | refine csp_f (d3) ?_ | refine pickk0 ?_ | refine csp (fun h => ?_) (fun h => ?_) | refine cllo (texts_whole_c _ (by decide)) (fun _ => ?_) | (refine sda ?_ ?_; (focus (first | rfl | exact of_decide_eq_true rfl | (simp; done)))) | refine sda ?_ ?_ | refine conk rfl ?_ | refine ldk rfl ?_ | refine mapk (fun x hx => ?_) | exact ⟨rfl, rfl⟩ | refine nilk (fun h => absurd h (of_decide_eq_false rfl)) ?_ | refine nilk (fun h => absurd h (List.cons_ne_nil _ _)) ?_ | refine nilk (fun h => ?_) ?_ | exact rfl | exact True.intro | refine leftk1 rfl ?_ | refine bytk8 rfl ?_ | refine bytk rfl ?_ | exact leftk0 rfl | refine eqk rfl ?_ | refine fLm rfl ?_ | refine fLk (by assumption) ?_ | refine fVk ?_ | refine fLVk ?_ | refine fWk ?_ | intro hl))
  all_goals conv => whnf
theorem g_ends (left : Bool) : G1 F_texts_ends_1 [.elem [.bool left]] := by
 intro q hq
 have t1 := text_g q
 obtain ⟨z1, hq1⟩ := txS_ok hq
 generalize txS q = p1 at *
 obtain ⟨s1, q1⟩ := p1
 dsimp only at t1 z1 hq1
 have hc := Chars_c s1 (by omega)
 have hsm := sm_chars z1
 have t2 := whole_g 1 q1
 obtain ⟨z2, hq2⟩ := whS_ok (d := 1) hq1 (by decide)
 generalize whS18 1 q1 = p2 at *
 obtain ⟨k2, q2⟩ := p2
 dsimp only at t2 z2 hq2
 have h9 := hsm.len
 generalize Vl.chars s1 = l at *
 have hlm : (l.map cS).length = l.length := List.length_map _
 by_cases hb : 0 < q2.b
 ·have d1 : decide (q2.b > 0) = true := decide_eq_true hb
  refine ⟨badS q2.b, true, q2, goodV_bad _, ?_⟩
  refine rl_texts_ends_1 rfl fun hw9 _ => ?_
  clear hw9
  repeat' ((conv => whnf); (first | refine Bth.mk ?_ ?_ | refine csp_t (d1) ?_ | refine pickk0 ?_ | refine csp (fun h => ?_) (fun h => ?_) | refine clll (RetL.frame (t1) _ [0] rfl (by simp) rfl rfl) (fun _ _ => ?_) | refine cllo (hc) (fun _ => ?_) | refine clll (RetL.frame (t2) _ [0] rfl (by simp) rfl rfl) (fun _ _ => ?_) | (apply clqi; apply rq_texts_asked_tells rfl) | refine cllo (value_Bad _) (fun _ => ?_) | (refine sda ?_ ?_; (focus (first | rfl | exact of_decide_eq_true rfl | (simp; done)))) | refine sda ?_ ?_ | refine conk rfl ?_ | refine ldk rfl ?_ | refine mapk (fun x hx => ?_) | exact ⟨rfl, rfl⟩ | refine nilk (fun h => absurd h (of_decide_eq_false rfl)) ?_ | refine nilk (fun h => absurd h (List.cons_ne_nil _ _)) ?_ | refine nilk (fun h => ?_) ?_ | exact rfl | exact True.intro | refine leftk1 rfl ?_ | refine bytk8 rfl ?_ | refine bytk rfl ?_ | exact leftk0 rfl | refine eqk rfl ?_ | refine fLm rfl ?_ | refine fLk (by assumption) ?_ | refine fVk ?_ | refine fLVk ?_ | refine fWk ?_ | intro hl))
  all_goals conv => whnf
  all_goals exact ⟨rfl, rfl⟩
 have d1 : decide (q2.b > 0) = false := decide_eq_false hb
 by_cases hk : 0 ≤ k2
 rotate_left
 ·have d2 : (!decide (k2 ≥ 0)) = true := by rw [decide_eq_false (by omega)]; rfl
  refine ⟨badS 2, true, q2, goodV_bad _, ?_⟩
  refine rl_texts_ends_1 rfl fun hw9 _ => ?_
  clear hw9
  repeat' ((conv => whnf); (first | refine Bth.mk ?_ ?_ | refine csp_t (d2) ?_ | refine csp_f (d1) ?_ | refine pickk0 ?_ | refine csp (fun h => ?_) (fun h => ?_) | refine clll (RetL.frame (t1) _ [0] rfl (by simp) rfl rfl) (fun _ _ => ?_) | refine cllo (hc) (fun _ => ?_) | refine clll (RetL.frame (t2) _ [0] rfl (by simp) rfl rfl) (fun _ _ => ?_) | (apply clqi; apply rq_texts_asked_tells rfl) | refine cllo (value_Bad _) (fun _ => ?_) | (refine sda ?_ ?_; (focus (first | rfl | exact of_decide_eq_true rfl | (simp; done)))) | refine sda ?_ ?_ | refine conk rfl ?_ | refine ldk rfl ?_ | refine mapk (fun x hx => ?_) | exact ⟨rfl, rfl⟩ | refine nilk (fun h => absurd h (of_decide_eq_false rfl)) ?_ | refine nilk (fun h => absurd h (List.cons_ne_nil _ _)) ?_ | refine nilk (fun h => ?_) ?_ | exact rfl | exact True.intro | refine leftk1 rfl ?_ | refine bytk8 rfl ?_ | refine bytk rfl ?_ | exact leftk0 rfl | refine eqk rfl ?_ | refine fLm rfl ?_ | refine fLk (by assumption) ?_ | refine fVk ?_ | refine fLVk ?_ | refine fWk ?_ | intro hl))
  all_goals conv => whnf
  all_goals exact ⟨rfl, rfl⟩
 have d2 : (!decide (k2 ≥ 0)) = false := by rw [decide_eq_true (by omega)]; rfl
 cases left
 ·have hj := fun els he => Join_r els _ he (hsm.drop (l.length - k2.toNat))
  refine ⟨strS (catL (l.drop (l.length - k2.toNat))), true, q2, strS_good _, ?_⟩
  refine rl_texts_ends_1 rfl fun hw9 _ => ?_
  clear hw9
  repeat' ((conv => whnf); (first | refine Bth.mk ?_ ?_ | refine csp_f (d2) ?_ | refine csp_f (d1) ?_ | refine pickk0 ?_ | refine csp (fun h => ?_) (fun h => ?_) | refine clll (RetL.frame (t1) _ [0] rfl (by simp) rfl rfl) (fun _ _ => ?_) | refine cllo (hc) (fun _ => ?_) | refine clll (RetL.frame (t2) _ [0] rfl (by simp) rfl rfl) (fun _ _ => ?_) | (apply clqi; apply rq_texts_asked_tells rfl) | (apply clqi; apply rq_texts_ends_1_1 rfl) | refine cllo (hj _ (dr _ hk h9)) (fun _ => ?_) | refine cllo (value_Str _) (fun _ => ?_) | (refine sda ?_ ?_; (focus (first | rfl | exact of_decide_eq_true rfl | (simp; done)))) | refine sda ?_ ?_ | refine conk rfl ?_ | refine ldk rfl ?_ | refine mapk (fun x hx => ?_) | exact ⟨rfl, rfl⟩ | refine nilk (fun h => absurd h (of_decide_eq_false rfl)) ?_ | refine nilk (fun h => absurd h (List.cons_ne_nil _ _)) ?_ | refine nilk (fun h => ?_) ?_ | exact rfl | exact True.intro | refine leftk1 rfl ?_ | refine bytk8 rfl ?_ | refine bytk rfl ?_ | exact leftk0 rfl | refine eqk rfl ?_ | refine fLm rfl ?_ | refine fLk (by assumption) ?_ | refine fVk ?_ | refine fLVk ?_ | refine fWk ?_ | intro hl))
  all_goals conv => whnf
  ·rw [hlm]
   rw [w64 (by split <;> omega)]
   refine ⟨?_, ?_, by omega⟩ <;> split <;> omega
  ·exact len1 hl
 ·have hj := fun els he => Join_r els _ he (hsm.take k2.toNat)
  refine ⟨strS (catL (l.take k2.toNat)), true, q2, strS_good _, ?_⟩
  refine rl_texts_ends_1 rfl fun hw9 _ => ?_
  clear hw9
  repeat' ((conv => whnf); (first | refine Bth.mk ?_ ?_ | refine csp_f (d2) ?_ | refine csp_f (d1) ?_ | refine pickk0 ?_ | refine csp (fun h => ?_) (fun h => ?_) | refine clll (RetL.frame (t1) _ [0] rfl (by simp) rfl rfl) (fun _ _ => ?_) | refine cllo (hc) (fun _ => ?_) | refine clll (RetL.frame (t2) _ [0] rfl (by simp) rfl rfl) (fun _ _ => ?_) | (apply clqi; apply rq_texts_asked_tells rfl) | (apply clqi; apply rq_texts_ends_1_1 rfl) | refine cllo (hj _ (tk _ hk)) (fun _ => ?_) | refine cllo (value_Str _) (fun _ => ?_) | (refine sda ?_ ?_; (focus (first | rfl | exact of_decide_eq_true rfl | (simp; done)))) | refine sda ?_ ?_ | refine conk rfl ?_ | refine ldk rfl ?_ | refine mapk (fun x hx => ?_) | exact ⟨rfl, rfl⟩ | refine nilk (fun h => absurd h (of_decide_eq_false rfl)) ?_ | refine nilk (fun h => absurd h (List.cons_ne_nil _ _)) ?_ | refine nilk (fun h => ?_) ?_ | exact rfl | exact True.intro | refine leftk1 rfl ?_ | refine bytk8 rfl ?_ | refine bytk rfl ?_ | exact leftk0 rfl | refine eqk rfl ?_ | refine fLm rfl ?_ | refine fLk (by assumption) ?_ | refine fVk ?_ | refine fLVk ?_ | refine fWk ?_ | intro hl))
  all_goals conv => whnf
  ·rw [hlm]
   refine ⟨by omega, ?_, ?_⟩ <;> split <;> omega
  ·exact len1 hl
theorem g_mid : G1 F_texts_mid [] := by
 intro q hq
 have t1 := text_g q
 obtain ⟨z1, hq1⟩ := txS_ok hq
 generalize txS q = p1 at *
 obtain ⟨s1, q1⟩ := p1
 dsimp only at t1 z1 hq1
 have hc := Chars_c s1 (by omega)
 have hsm := sm_chars z1
 have t2 := whole_g 0 q1
 obtain ⟨z2, hq2⟩ := whS_ok (d := 0) hq1 (by decide)
 generalize whS18 0 q1 = p2 at *
 obtain ⟨k2, q2⟩ := p2
 dsimp only at t2 z2 hq2
 have t3 := whole_g 0 q2
 obtain ⟨z3, hq3⟩ := whS_ok (d := 0) hq2 (by decide)
 generalize whS18 0 q2 = p3 at *
 obtain ⟨k3, q3⟩ := p3
 dsimp only at t3 z3 hq3
 have h9 := hsm.len
 generalize Vl.chars s1 = l at *
 by_cases hb : 0 < q3.b
 ·have d1 : decide (q3.b > 0) = true := decide_eq_true hb
  refine ⟨badS q3.b, true, q3, goodV_bad _, ?_⟩
  refine rl_texts_mid rfl fun hw9 _ => ?_
  clear hw9
  repeat' ((conv => whnf); (first | refine Bth.mk ?_ ?_ | refine csp_t (d1) ?_ | refine pickk0 ?_ | refine csp (fun h => ?_) (fun h => ?_) | refine clll (RetL.frame (t1) _ [0] rfl (by simp) rfl rfl) (fun _ _ => ?_) | refine cllo (hc) (fun _ => ?_) | refine clll (RetL.frame (t2) _ [0] rfl (by simp) rfl rfl) (fun _ _ => ?_) | refine clll (RetL.frame (t3) _ [0] rfl (by simp) rfl rfl) (fun _ _ => ?_) | (apply clqi; apply rq_texts_asked_tells rfl) | refine cllo (value_Bad _) (fun _ => ?_) | (refine sda ?_ ?_; (focus (first | rfl | exact of_decide_eq_true rfl | (simp; done)))) | refine sda ?_ ?_ | refine conk rfl ?_ | refine ldk rfl ?_ | refine mapk (fun x hx => ?_) | exact ⟨rfl, rfl⟩ | refine nilk (fun h => absurd h (of_decide_eq_false rfl)) ?_ | refine nilk (fun h => absurd h (List.cons_ne_nil _ _)) ?_ | refine nilk (fun h => ?_) ?_ | exact rfl | exact True.intro | refine leftk1 rfl ?_ | refine bytk8 rfl ?_ | refine bytk rfl ?_ | exact leftk0 rfl | refine eqk rfl ?_ | refine fLm rfl ?_ | refine fLk (by assumption) ?_ | refine fVk ?_ | refine fLVk ?_ | refine fWk ?_ | intro hl))
  all_goals conv => whnf
  all_goals exact ⟨rfl, rfl⟩
 have d1 : decide (q3.b > 0) = false := decide_eq_false hb
 by_cases hk : 1 ≤ k2
 rotate_left
 ·have d2 : decide (k2 ≥ 1) = false := decide_eq_false (by omega)
  refine ⟨badS 2, true, q3, goodV_bad _, ?_⟩
  refine rl_texts_mid rfl fun hw9 _ => ?_
  clear hw9
  repeat' ((conv => whnf); (first | refine Bth.mk ?_ ?_ | refine csp_f (d2) ?_ | refine csp_f (d1) ?_ | refine pickk0 ?_ | refine csp (fun h => ?_) (fun h => ?_) | refine clll (RetL.frame (t1) _ [0] rfl (by simp) rfl rfl) (fun _ _ => ?_) | refine cllo (hc) (fun _ => ?_) | refine clll (RetL.frame (t2) _ [0] rfl (by simp) rfl rfl) (fun _ _ => ?_) | refine clll (RetL.frame (t3) _ [0] rfl (by simp) rfl rfl) (fun _ _ => ?_) | (apply clqi; apply rq_texts_asked_tells rfl) | refine cllo (value_Bad _) (fun _ => ?_) | (refine sda ?_ ?_; (focus (first | rfl | exact of_decide_eq_true rfl | (simp; done)))) | refine sda ?_ ?_ | refine conk rfl ?_ | refine ldk rfl ?_ | refine mapk (fun x hx => ?_) | exact ⟨rfl, rfl⟩ | refine nilk (fun h => absurd h (of_decide_eq_false rfl)) ?_ | refine nilk (fun h => absurd h (List.cons_ne_nil _ _)) ?_ | refine nilk (fun h => ?_) ?_ | exact rfl | exact True.intro | refine leftk1 rfl ?_ | refine bytk8 rfl ?_ | refine bytk rfl ?_ | exact leftk0 rfl | refine eqk rfl ?_ | refine fLm rfl ?_ | refine fLk (by assumption) ?_ | refine fVk ?_ | refine fLVk ?_ | refine fWk ?_ | intro hl))
  all_goals conv => whnf
  all_goals exact ⟨rfl, rfl⟩
 have d2 : decide (k2 ≥ 1) = true := decide_eq_true (by omega)
 by_cases hn : 0 ≤ k3
 rotate_left
 ·have d3 : decide (k3 ≥ 0) = false := decide_eq_false (by omega)
  have d4 : (!decide (k3 ≥ 0)) = true := by rw [d3]; rfl
  refine ⟨badS 2, true, q3, goodV_bad _, ?_⟩
  refine rl_texts_mid rfl fun hw9 _ => ?_
  clear hw9
  repeat' ((conv => whnf); (first | refine Bth.mk ?_ ?_ | refine csp_t (d2) ?_ | refine csp_t (d4) ?_ | refine csp_f (d3) ?_ | refine csp_f (d1) ?_ | refine pickk0 ?_ | refine csp (fun h => ?_) (fun h => ?_) | refine clll (RetL.frame (t1) _ [0] rfl (by simp) rfl rfl) (fun _ _ => ?_) | refine cllo (hc) (fun _ => ?_) | refine clll (RetL.frame (t2) _ [0] rfl (by simp) rfl rfl) (fun _ _ => ?_) | refine clll (RetL.frame (t3) _ [0] rfl (by simp) rfl rfl) (fun _ _ => ?_) | (apply clqi; apply rq_texts_asked_tells rfl) | refine cllo (value_Bad _) (fun _ => ?_) | (refine sda ?_ ?_; (focus (first | rfl | exact of_decide_eq_true rfl | (simp; done)))) | refine sda ?_ ?_ | refine conk rfl ?_ | refine ldk rfl ?_ | refine mapk (fun x hx => ?_) | exact ⟨rfl, rfl⟩ | refine nilk (fun h => absurd h (of_decide_eq_false rfl)) ?_ | refine nilk (fun h => absurd h (List.cons_ne_nil _ _)) ?_ | refine nilk (fun h => ?_) ?_ | exact rfl | exact True.intro | refine leftk1 rfl ?_ | refine bytk8 rfl ?_ | refine bytk rfl ?_ | exact leftk0 rfl | refine eqk rfl ?_ | refine fLm rfl ?_ | refine fLk (by assumption) ?_ | refine fVk ?_ | refine fLVk ?_ | refine fWk ?_ | intro hl))
  all_goals conv => whnf
  all_goals exact ⟨rfl, rfl⟩
 have d3 : decide (k3 ≥ 0) = true := decide_eq_true hn
 have d4 : (!decide (k3 ≥ 0)) = false := by rw [d3]; rfl
 refine ⟨strS (catL ((l.drop (k2 - 1).toNat).take k3.toNat)), true, q3, strS_good _, ?_⟩
 refine rl_texts_mid rfl fun hw9 _ => ?_
 clear hw9
 repeat' ((conv => whnf); (first | refine Bth.mk ?_ ?_ | refine csp_t (d2) ?_ | refine csp_t (d3) ?_ | refine csp_f (d4) ?_ | refine csp_f (d1) ?_ | refine pickk0 ?_ | refine csp (fun h => ?_) (fun h => ?_) | refine clll (RetL.frame (t1) _ [0] rfl (by simp) rfl rfl) (fun _ _ => ?_) | refine cllo (hc) (fun _ => ?_) | refine clll (RetL.frame (t2) _ [0] rfl (by simp) rfl rfl) (fun _ _ => ?_) | refine clll (RetL.frame (t3) _ [0] rfl (by simp) rfl rfl) (fun _ _ => ?_) | (apply clqi; apply rq_texts_asked_tells rfl) | (apply clqi; apply rq_texts_mid_1 rfl) | refine cllo (part_c l k2 k3 ⟨hk, z2.2⟩ ⟨hn, z3.2⟩ h9) (fun _ => ?_) | refine cllo (Join_r _ _ rfl ((hsm.drop _).take _)) (fun _ => ?_) | refine cllo (value_Str _) (fun _ => ?_) | (refine sda ?_ ?_; (focus (first | rfl | exact of_decide_eq_true rfl | (simp; done)))) | refine sda ?_ ?_ | refine conk rfl ?_ | refine ldk rfl ?_ | refine mapk (fun x hx => ?_) | exact ⟨rfl, rfl⟩ | refine nilk (fun h => absurd h (of_decide_eq_false rfl)) ?_ | refine nilk (fun h => absurd h (List.cons_ne_nil _ _)) ?_ | refine nilk (fun h => ?_) ?_ | exact rfl | exact True.intro | refine leftk1 rfl ?_ | refine bytk8 rfl ?_ | refine bytk rfl ?_ | exact leftk0 rfl | refine eqk rfl ?_ | refine fLm rfl ?_ | refine fLk (by assumption) ?_ | refine fVk ?_ | refine fLVk ?_ | refine fWk ?_ | intro hl))
 all_goals conv => whnf
 all_goals exact ⟨rfl, rfl⟩
theorem g_replace : G1 F_texts_replace [] := by
 intro q hq
 have t1 := text_g q
 obtain ⟨z1, hq1⟩ := txS_ok hq
 generalize txS q = p1 at *
 obtain ⟨s1, q1⟩ := p1
 dsimp only at t1 z1 hq1
 have hc := Chars_c s1 (by omega)
 have hsm := sm_chars z1
 have t2 := whole_g 0 q1
 obtain ⟨z2, hq2⟩ := whS_ok (d := 0) hq1 (by decide)
 generalize whS18 0 q1 = p2 at *
 obtain ⟨k2, q2⟩ := p2
 dsimp only at t2 z2 hq2
 have t3 := whole_g 0 q2
 obtain ⟨z3, hq3⟩ := whS_ok (d := 0) hq2 (by decide)
 generalize whS18 0 q2 = p3 at *
 obtain ⟨k3, q3⟩ := p3
 dsimp only at t3 z3 hq3
 have t4 := text_g q3
 obtain ⟨z4, hq4⟩ := txS_ok hq3
 generalize txS q3 = p4 at *
 obtain ⟨s4, q4⟩ := p4
 dsimp only at t4 z4 hq4
 have h9 := hsm.len
 generalize Vl.chars s1 = l at *
 by_cases hb : 0 < q4.b
 ·have d1 : decide (q4.b > 0) = true := decide_eq_true hb
  refine ⟨badS q4.b, true, q4, goodV_bad _, ?_⟩
  refine rl_texts_replace rfl fun hw9 _ => ?_
  clear hw9
  repeat' ((conv => whnf); (first | refine Bth.mk ?_ ?_ | refine csp_t (d1) ?_ | refine pickk0 ?_ | refine csp (fun h => ?_) (fun h => ?_) | refine clll (RetL.frame (t1) _ [0] rfl (by simp) rfl rfl) (fun _ _ => ?_) | refine cllo (hc) (fun _ => ?_) | refine clll (RetL.frame (t2) _ [0] rfl (by simp) rfl rfl) (fun _ _ => ?_) | refine clll (RetL.frame (t3) _ [0] rfl (by simp) rfl rfl) (fun _ _ => ?_) | refine clll (RetL.frame (t4) _ [0] rfl (by simp) rfl rfl) (fun _ _ => ?_) | (apply clqi; apply rq_texts_asked_tells rfl) | refine cllo (value_Bad _) (fun _ => ?_) | (refine sda ?_ ?_; (focus (first | rfl | exact of_decide_eq_true rfl | (simp; done)))) | refine sda ?_ ?_ | refine conk rfl ?_ | refine ldk rfl ?_ | refine mapk (fun x hx => ?_) | exact ⟨rfl, rfl⟩ | refine nilk (fun h => absurd h (of_decide_eq_false rfl)) ?_ | refine nilk (fun h => absurd h (List.cons_ne_nil _ _)) ?_ | refine nilk (fun h => ?_) ?_ | exact rfl | exact True.intro | refine leftk1 rfl ?_ | refine bytk8 rfl ?_ | refine bytk rfl ?_ | exact leftk0 rfl | refine eqk rfl ?_ | refine fLm rfl ?_ | refine fLk (by assumption) ?_ | refine fVk ?_ | refine fLVk ?_ | refine fWk ?_ | intro hl))
  all_goals conv => whnf
  all_goals exact ⟨rfl, rfl⟩
 have d1 : decide (q4.b > 0) = false := decide_eq_false hb
 by_cases hk : 1 ≤ k2
 rotate_left
 ·have d2 : decide (k2 ≥ 1) = false := decide_eq_false (by omega)
  refine ⟨badS 2, true, q4, goodV_bad _, ?_⟩
  refine rl_texts_replace rfl fun hw9 _ => ?_
  clear hw9
  repeat' ((conv => whnf); (first | refine Bth.mk ?_ ?_ | refine csp_f (d2) ?_ | refine csp_f (d1) ?_ | refine pickk0 ?_ | refine csp (fun h => ?_) (fun h => ?_) | refine clll (RetL.frame (t1) _ [0] rfl (by simp) rfl rfl) (fun _ _ => ?_) | refine cllo (hc) (fun _ => ?_) | refine clll (RetL.frame (t2) _ [0] rfl (by simp) rfl rfl) (fun _ _ => ?_) | refine clll (RetL.frame (t3) _ [0] rfl (by simp) rfl rfl) (fun _ _ => ?_) | refine clll (RetL.frame (t4) _ [0] rfl (by simp) rfl rfl) (fun _ _ => ?_) | (apply clqi; apply rq_texts_asked_tells rfl) | refine cllo (value_Bad _) (fun _ => ?_) | (refine sda ?_ ?_; (focus (first | rfl | exact of_decide_eq_true rfl | (simp; done)))) | refine sda ?_ ?_ | refine conk rfl ?_ | refine ldk rfl ?_ | refine mapk (fun x hx => ?_) | exact ⟨rfl, rfl⟩ | refine nilk (fun h => absurd h (of_decide_eq_false rfl)) ?_ | refine nilk (fun h => absurd h (List.cons_ne_nil _ _)) ?_ | refine nilk (fun h => ?_) ?_ | exact rfl | exact True.intro | refine leftk1 rfl ?_ | refine bytk8 rfl ?_ | refine bytk rfl ?_ | exact leftk0 rfl | refine eqk rfl ?_ | refine fLm rfl ?_ | refine fLk (by assumption) ?_ | refine fVk ?_ | refine fLVk ?_ | refine fWk ?_ | intro hl))
  all_goals conv => whnf
  all_goals exact ⟨rfl, rfl⟩
 have d2 : decide (k2 ≥ 1) = true := decide_eq_true (by omega)
 by_cases hn : 0 ≤ k3
 rotate_left
 ·have d3 : decide (k3 ≥ 0) = false := decide_eq_false (by omega)
  have d4 : (!decide (k3 ≥ 0)) = true := by rw [d3]; rfl
  refine ⟨badS 2, true, q4, goodV_bad _, ?_⟩
  refine rl_texts_replace rfl fun hw9 _ => ?_
  clear hw9
  repeat' ((conv => whnf); (first | refine Bth.mk ?_ ?_ | refine csp_t (d2) ?_ | refine csp_t (d4) ?_ | refine csp_f (d3) ?_ | refine csp_f (d1) ?_ | refine pickk0 ?_ | refine csp (fun h => ?_) (fun h => ?_) | refine clll (RetL.frame (t1) _ [0] rfl (by simp) rfl rfl) (fun _ _ => ?_) | refine cllo (hc) (fun _ => ?_) | refine clll (RetL.frame (t2) _ [0] rfl (by simp) rfl rfl) (fun _ _ => ?_) | refine clll (RetL.frame (t3) _ [0] rfl (by simp) rfl rfl) (fun _ _ => ?_) | refine clll (RetL.frame (t4) _ [0] rfl (by simp) rfl rfl) (fun _ _ => ?_) | (apply clqi; apply rq_texts_asked_tells rfl) | refine cllo (value_Bad _) (fun _ => ?_) | (refine sda ?_ ?_; (focus (first | rfl | exact of_decide_eq_true rfl | (simp; done)))) | refine sda ?_ ?_ | refine conk rfl ?_ | refine ldk rfl ?_ | refine mapk (fun x hx => ?_) | exact ⟨rfl, rfl⟩ | refine nilk (fun h => absurd h (of_decide_eq_false rfl)) ?_ | refine nilk (fun h => absurd h (List.cons_ne_nil _ _)) ?_ | refine nilk (fun h => ?_) ?_ | exact rfl | exact True.intro | refine leftk1 rfl ?_ | refine bytk8 rfl ?_ | refine bytk rfl ?_ | exact leftk0 rfl | refine eqk rfl ?_ | refine fLm rfl ?_ | refine fLk (by assumption) ?_ | refine fVk ?_ | refine fLVk ?_ | refine fWk ?_ | intro hl))
  all_goals conv => whnf
  all_goals exact ⟨rfl, rfl⟩
 have d3 : decide (k3 ≥ 0) = true := decide_eq_true hn
 have d4 : (!decide (k3 ≥ 0)) = false := by rw [d3]; rfl
 have y1 := cat_size (hsm.take (k2 - 1).toNat)
 have y2 := cat_size (hsm.drop ((k2 - 1).toNat + k3.toNat))
 refine ⟨strS (catL (l.take (k2 - 1).toNat) ++ s4 ++ catL (l.drop ((k2 - 1).toNat + k3.toNat))), true, q4, strS_good _, ?_⟩
 refine rl_texts_replace rfl fun hw9 _ => ?_
 clear hw9
 repeat' ((conv => whnf); (first | refine Bth.mk ?_ ?_ | refine csp_t (d2) ?_ | refine csp_t (d3) ?_ | refine csp_f (d4) ?_ | refine csp_f (d1) ?_ | refine pickk0 ?_ | refine csp (fun h => ?_) (fun h => ?_) | refine clll (RetL.frame (t1) _ [0] rfl (by simp) rfl rfl) (fun _ _ => ?_) | refine cllo (hc) (fun _ => ?_) | refine clll (RetL.frame (t2) _ [0] rfl (by simp) rfl rfl) (fun _ _ => ?_) | refine clll (RetL.frame (t3) _ [0] rfl (by simp) rfl rfl) (fun _ _ => ?_) | refine clll (RetL.frame (t4) _ [0] rfl (by simp) rfl rfl) (fun _ _ => ?_) | (apply clqi; apply rq_texts_asked_tells rfl) | (apply clqi; apply rq_texts_replace_1 rfl) | refine cllo (part_c l k2 k3 ⟨hk, z2.2⟩ ⟨hn, z3.2⟩ h9) (fun _ => ?_) | refine cllo (Join_r _ _ rfl (hsm.take _)) (fun _ => ?_) | refine cllo (Join_r _ _ rfl (hsm.drop _)) (fun _ => ?_) | refine cllo (value_Str _) (fun _ => ?_) | (refine sda ?_ ?_; (focus (first | rfl | exact of_decide_eq_true rfl | (simp; done)))) | refine sda ?_ ?_ | refine conk rfl ?_ | refine ldk rfl ?_ | refine mapk (fun x hx => ?_) | exact ⟨rfl, rfl⟩ | refine nilk (fun h => absurd h (of_decide_eq_false rfl)) ?_ | refine nilk (fun h => absurd h (List.cons_ne_nil _ _)) ?_ | refine nilk (fun h => ?_) ?_ | exact rfl | exact True.intro | refine leftk1 rfl ?_ | refine bytk8 rfl ?_ | refine bytk rfl ?_ | exact leftk0 rfl | refine eqk rfl ?_ | refine fLm rfl ?_ | refine fLk (by assumption) ?_ | refine fVk ?_ | refine fLVk ?_ | refine fWk ?_ | intro hl))
 all_goals conv => whnf
 ·exact (by omega : (catL (l.take (k2 - 1).toNat)).size + s4.size ≤ 9223372036854775807)
 ·exact (by rw [ByteArray.size_append]; omega : (catL (l.take (k2 - 1).toNat) ++ s4).size + (catL (l.drop ((k2 - 1).toNat + k3.toNat))).size ≤ 9223372036854775807)
theorem g_exact : G1 F_texts_find_5 [] := by
 intro q hq
 have t1 := text_g q
 obtain ⟨z1, hq1⟩ := txS_ok hq
 generalize txS q = p1 at *
 obtain ⟨s1, q1⟩ := p1
 dsimp only at t1 z1 hq1
 have t2 := text_g q1
 obtain ⟨z2, hq2⟩ := txS_ok hq1
 generalize txS q1 = p2 at *
 obtain ⟨s2, q2⟩ := p2
 dsimp only at t2 z2 hq2
 by_cases hb : 0 < q2.b
 ·have d1 : decide (q2.b > 0) = true := decide_eq_true hb
  refine ⟨badS q2.b, true, q2, goodV_bad _, ?_⟩
  refine rl_texts_find_5 rfl fun hw9 _ => ?_
  clear hw9
  repeat' ((conv => whnf); (first | refine Bth.mk ?_ ?_ | refine csp_t (d1) ?_ | refine pickk0 ?_ | refine csp (fun h => ?_) (fun h => ?_) | refine clll (RetL.frame (t1) _ [0] rfl (by simp) rfl rfl) (fun _ _ => ?_) | refine clll (RetL.frame (t2) _ [0] rfl (by simp) rfl rfl) (fun _ _ => ?_) | (apply clqi; apply rq_texts_asked_tells rfl) | refine cllo (value_Bad _) (fun _ => ?_) | (refine sda ?_ ?_; (focus (first | rfl | exact of_decide_eq_true rfl | (simp; done)))) | refine sda ?_ ?_ | refine conk rfl ?_ | refine ldk rfl ?_ | refine mapk (fun x hx => ?_) | exact ⟨rfl, rfl⟩ | refine nilk (fun h => absurd h (of_decide_eq_false rfl)) ?_ | refine nilk (fun h => absurd h (List.cons_ne_nil _ _)) ?_ | refine nilk (fun h => ?_) ?_ | exact rfl | exact True.intro | refine leftk1 rfl ?_ | refine bytk8 rfl ?_ | refine bytk rfl ?_ | exact leftk0 rfl | refine eqk rfl ?_ | refine fLm rfl ?_ | refine fLk (by assumption) ?_ | refine fVk ?_ | refine fLVk ?_ | refine fWk ?_ | intro hl))
  all_goals conv => whnf
  all_goals exact ⟨rfl, rfl⟩
 have d1 : decide (q2.b > 0) = false := decide_eq_false hb
 by_cases h : s1 = s2
 ·have d2 : decide (s1 = s2) = true := decide_eq_true h
  refine ⟨⟨3, 1, e0⟩, true, q2, by decide, ?_⟩
  refine rl_texts_find_5 rfl fun hw9 _ => ?_
  clear hw9
  repeat' ((conv => whnf); (first | refine Bth.mk ?_ ?_ | refine csp_t (d2) ?_ | refine csp_f (d1) ?_ | refine pickk0 ?_ | refine csp (fun h => ?_) (fun h => ?_) | refine clll (RetL.frame (t1) _ [0] rfl (by simp) rfl rfl) (fun _ _ => ?_) | refine clll (RetL.frame (t2) _ [0] rfl (by simp) rfl rfl) (fun _ _ => ?_) | (apply clqi; apply rq_texts_asked_tells rfl) | (apply clqi; apply rq_texts_find_5_1 rfl) | (refine sda ?_ ?_; (focus (first | rfl | exact of_decide_eq_true rfl | (simp; done)))) | refine sda ?_ ?_ | refine conk rfl ?_ | refine ldk rfl ?_ | refine mapk (fun x hx => ?_) | exact ⟨rfl, rfl⟩ | refine nilk (fun h => absurd h (of_decide_eq_false rfl)) ?_ | refine nilk (fun h => absurd h (List.cons_ne_nil _ _)) ?_ | refine nilk (fun h => ?_) ?_ | exact rfl | exact True.intro | refine leftk1 rfl ?_ | refine bytk8 rfl ?_ | refine bytk rfl ?_ | exact leftk0 rfl | refine eqk rfl ?_ | refine fLm rfl ?_ | refine fLk (by assumption) ?_ | refine fVk ?_ | refine fLVk ?_ | refine fWk ?_ | intro hl))
  all_goals conv => whnf
  all_goals exact ⟨rfl, rfl⟩
 ·have d2 : decide (s1 = s2) = false := decide_eq_false h
  refine ⟨⟨3, 0, e0⟩, true, q2, by decide, ?_⟩
  refine rl_texts_find_5 rfl fun hw9 _ => ?_
  clear hw9
  repeat' ((conv => whnf); (first | refine Bth.mk ?_ ?_ | refine csp_f (d1) ?_ | refine csp_f (d2) ?_ | refine pickk0 ?_ | refine csp (fun h => ?_) (fun h => ?_) | refine clll (RetL.frame (t1) _ [0] rfl (by simp) rfl rfl) (fun _ _ => ?_) | refine clll (RetL.frame (t2) _ [0] rfl (by simp) rfl rfl) (fun _ _ => ?_) | (apply clqi; apply rq_texts_asked_tells rfl) | (apply clqi; apply rq_texts_find_5_1 rfl) | (refine sda ?_ ?_; (focus (first | rfl | exact of_decide_eq_true rfl | (simp; done)))) | refine sda ?_ ?_ | refine conk rfl ?_ | refine ldk rfl ?_ | refine mapk (fun x hx => ?_) | exact ⟨rfl, rfl⟩ | refine nilk (fun h => absurd h (of_decide_eq_false rfl)) ?_ | refine nilk (fun h => absurd h (List.cons_ne_nil _ _)) ?_ | refine nilk (fun h => ?_) ?_ | exact rfl | exact True.intro | refine leftk1 rfl ?_ | refine bytk8 rfl ?_ | refine bytk rfl ?_ | exact leftk0 rfl | refine eqk rfl ?_ | refine fLm rfl ?_ | refine fLk (by assumption) ?_ | refine fVk ?_ | refine fLVk ?_ | refine fWk ?_ | intro hl))
  all_goals conv => whnf
  all_goals exact ⟨rfl, rfl⟩
theorem joinS_good (skip : Bool) (d : ByteArray) (l : List Ar) (b : Int) : goodV (joinS skip d l b) = true := by
 unfold joinS
 split
 ·exact goodV_bad _
 ·exact strS_good _
theorem g_concat : G1 F_texts_find_7 [] := fun q hq => ⟨_, true, _, joinS_good _ _ _ _, concat_g q hq.b (by have := hq.n; omega) (by have := hq.l; omega)⟩
theorem g_textjoin : G1 F_texts_find_8 [] := by
 intro q hq
 have t1 := text_g q
 obtain ⟨z1, hq1⟩ := txS_ok hq
 generalize txS q = p1 at *
 obtain ⟨s1, q1⟩ := p1
 dsimp only at t1 z1 hq1
 have t2 := flag_g q1
 have hq2 := fgS_ok hq1
 generalize fgS q1 = p2 at *
 obtain ⟨b2, q2⟩ := p2
 dsimp only at t2 hq2
 have hj := joined_c q2.l q2.b s1 b2 hq2.b (by have := hq2.n; omega) (by have := hq2.l; omega) z1
 have hg := joinS_good b2 s1 q2.l q2.b
 generalize joinS b2 s1 q2.l q2.b = r at *
 generalize (ja b2 q2.l [] q2.b).2 = y at *
 refine ⟨r, true, ⟨q2.l, y⟩, hg, ?_⟩
 refine rl_texts_find_8 rfl fun hw9 _ => ?_
 clear hw9
 repeat' ((conv => whnf); (first | refine Bth.mk ?_ ?_ | refine pickk0 ?_ | refine csp (fun h => ?_) (fun h => ?_) | refine clll (RetL.frame (t1) _ [0] rfl (by simp) rfl rfl) (fun _ _ => ?_) | refine clll (RetL.frame (t2) _ [0] rfl (by simp) rfl rfl) (fun _ _ => ?_) | refine clll (RetL.frame (hj) _ [0] rfl (by simp) rfl rfl) (fun _ _ => ?_) | (refine sda ?_ ?_; (focus (first | rfl | exact of_decide_eq_true rfl | (simp; done)))) | refine sda ?_ ?_ | refine conk rfl ?_ | refine ldk rfl ?_ | refine mapk (fun x hx => ?_) | exact ⟨rfl, rfl⟩ | refine nilk (fun h => absurd h (of_decide_eq_false rfl)) ?_ | refine nilk (fun h => absurd h (List.cons_ne_nil _ _)) ?_ | refine nilk (fun h => ?_) ?_ | exact rfl | exact True.intro | refine leftk1 rfl ?_ | refine bytk8 rfl ?_ | refine bytk rfl ?_ | exact leftk0 rfl | refine eqk rfl ?_ | refine fLm rfl ?_ | refine fLk (by assumption) ?_ | refine fVk ?_ | refine fLVk ?_ | refine fWk ?_ | intro hl))
 all_goals conv => whnf
 all_goals exact ⟨rfl, rfl⟩
end Go.Proofs.YtcbknemdidehlaaGreatDoor
set_option maxRecDepth 100000
set_option linter.all false
namespace Go.Proofs.YtcbknemdidehlaaGreatDoor
open Ab R P Vl Go.RowKit
def vrS (n : Int) : Bool := (decide (0 ≤ n) && decide (n < 55296)) || (decide (57343 < n) && decide (n ≤ 1114111))
theorem ValidRune_c (n : Int) : Ret Tryz.prog F_utf8_ValidRune [.int .i32 n] (.bool (vrS n)) := by
 refine r_utf8_ValidRune rfl fun hw => ?_
 clear hw
 repeat' ((conv => whnf); (first | refine csp (fun h => ?_) (fun h => ?_) | (refine sda ?_ ?_; (focus (first | rfl | (simp; done)))) | refine sda ?_ ?_ | refine conk rfl ?_ | refine ldk rfl ?_ | refine mapk (fun x hx => ?_) | exact ⟨rfl, rfl⟩ | refine nilk (fun h => ?_) ?_ | intro hl))
 all_goals conv => whnf
 all_goals simp_all [vrS]
 all_goals omega
theorem g_char : G1 F_texts_char [] := by
 intro q hq
 have t1 := whole_g 0 q
 obtain ⟨z1, hq1⟩ := whS_ok (d := 0) hq (by decide)
 generalize whS18 0 q = p1 at *
 obtain ⟨k, q1⟩ := p1
 dsimp only at t1 z1 hq1
 have eW : IntKind.i32.wrap k = k := (wrap_iff .i32 k).2 (by simp only [kLo, kHi]; omega)
 have hv := ValidRune_c (IntKind.i32.wrap k)
 by_cases hb : 0 < q1.b
 ·have d1 : decide (q1.b > 0) = true := decide_eq_true hb
  refine ⟨badS q1.b, true, q1, goodV_bad _, ?_⟩
  refine rl_texts_char rfl fun hw9 _ => ?_
  clear hw9
  repeat' ((conv => whnf); (first | refine Bth.mk ?_ ?_ | refine csp_t (d1) ?_ | refine pickk0 ?_ | refine csp (fun h => ?_) (fun h => ?_) | refine clll (RetL.frame (t1) _ [0] rfl (by simp) rfl rfl) (fun _ _ => ?_) | refine cllo (hv) (fun _ => ?_) | (apply clqi; apply rq_texts_asked_tells rfl) | refine cllo (value_Bad _) (fun _ => ?_) | (refine sda ?_ ?_; (focus (first | rfl | exact of_decide_eq_true rfl | (simp; done)))) | refine sda ?_ ?_ | refine conk rfl ?_ | refine ldk rfl ?_ | refine mapk (fun x hx => ?_) | exact ⟨rfl, rfl⟩ | refine nilk (fun h => absurd h (of_decide_eq_false rfl)) ?_ | refine nilk (fun h => absurd h (List.cons_ne_nil _ _)) ?_ | refine nilk (fun h => ?_) ?_ | exact rfl | exact True.intro | refine leftk1 rfl ?_ | refine bytk8 rfl ?_ | refine bytk rfl ?_ | exact leftk0 rfl | refine eqk rfl ?_ | refine fLm rfl ?_ | refine fLk (by assumption) ?_ | refine fVk ?_ | refine fLVk ?_ | refine fWk ?_ | intro hl))
  all_goals conv => whnf
  all_goals exact ⟨rfl, rfl⟩
 have d1 : decide (q1.b > 0) = false := decide_eq_false hb
 by_cases c1 : 1 ≤ k
 rotate_left
 ·have d2 : decide (k ≥ 1) = false := decide_eq_false (by omega)
  refine ⟨badS 2, true, q1, goodV_bad _, ?_⟩
  refine rl_texts_char rfl fun hw9 _ => ?_
  clear hw9
  repeat' ((conv => whnf); (first | refine Bth.mk ?_ ?_ | refine csp_f (d2) ?_ | refine csp_f (d1) ?_ | refine pickk0 ?_ | refine csp (fun h => ?_) (fun h => ?_) | refine clll (RetL.frame (t1) _ [0] rfl (by simp) rfl rfl) (fun _ _ => ?_) | refine cllo (hv) (fun _ => ?_) | (apply clqi; apply rq_texts_asked_tells rfl) | refine cllo (value_Bad _) (fun _ => ?_) | (refine sda ?_ ?_; (focus (first | rfl | exact of_decide_eq_true rfl | (simp; done)))) | refine sda ?_ ?_ | refine conk rfl ?_ | refine ldk rfl ?_ | refine mapk (fun x hx => ?_) | exact ⟨rfl, rfl⟩ | refine nilk (fun h => absurd h (of_decide_eq_false rfl)) ?_ | refine nilk (fun h => absurd h (List.cons_ne_nil _ _)) ?_ | refine nilk (fun h => ?_) ?_ | exact rfl | exact True.intro | refine leftk1 rfl ?_ | refine bytk8 rfl ?_ | refine bytk rfl ?_ | exact leftk0 rfl | refine eqk rfl ?_ | refine fLm rfl ?_ | refine fLk (by assumption) ?_ | refine fVk ?_ | refine fLVk ?_ | refine fWk ?_ | intro hl))
  all_goals conv => whnf
  all_goals exact ⟨rfl, rfl⟩
 have d2 : decide (k ≥ 1) = true := decide_eq_true c1
 by_cases c2 : k ≤ 1114111
 rotate_left
 ·have d3 : decide (k ≤ 1114111) = false := decide_eq_false c2
  refine ⟨badS 2, true, q1, goodV_bad _, ?_⟩
  refine rl_texts_char rfl fun hw9 _ => ?_
  clear hw9
  repeat' ((conv => whnf); (first | refine Bth.mk ?_ ?_ | refine csp_t (d2) ?_ | refine csp_f (d3) ?_ | refine csp_f (d1) ?_ | refine pickk0 ?_ | refine csp (fun h => ?_) (fun h => ?_) | refine clll (RetL.frame (t1) _ [0] rfl (by simp) rfl rfl) (fun _ _ => ?_) | refine cllo (hv) (fun _ => ?_) | (apply clqi; apply rq_texts_asked_tells rfl) | refine cllo (value_Bad _) (fun _ => ?_) | (refine sda ?_ ?_; (focus (first | rfl | exact of_decide_eq_true rfl | (simp; done)))) | refine sda ?_ ?_ | refine conk rfl ?_ | refine ldk rfl ?_ | refine mapk (fun x hx => ?_) | exact ⟨rfl, rfl⟩ | refine nilk (fun h => absurd h (of_decide_eq_false rfl)) ?_ | refine nilk (fun h => absurd h (List.cons_ne_nil _ _)) ?_ | refine nilk (fun h => ?_) ?_ | exact rfl | exact True.intro | refine leftk1 rfl ?_ | refine bytk8 rfl ?_ | refine bytk rfl ?_ | exact leftk0 rfl | refine eqk rfl ?_ | refine fLm rfl ?_ | refine fLk (by assumption) ?_ | refine fVk ?_ | refine fLVk ?_ | refine fWk ?_ | intro hl))
  all_goals conv => whnf
  all_goals exact ⟨rfl, rfl⟩
 have d3 : decide (k ≤ 1114111) = true := decide_eq_true c2
 cases hvr : vrS (IntKind.i32.wrap k)
 ·rw [hvr] at hv
  refine ⟨badS 2, true, q1, goodV_bad _, ?_⟩
  refine rl_texts_char rfl fun hw9 _ => ?_
  clear hw9
  repeat' ((conv => whnf); (first | refine Bth.mk ?_ ?_ | refine csp_t (d2) ?_ | refine csp_t (d3) ?_ | refine csp_f (d1) ?_ | refine pickk0 ?_ | refine csp (fun h => ?_) (fun h => ?_) | refine clll (RetL.frame (t1) _ [0] rfl (by simp) rfl rfl) (fun _ _ => ?_) | refine cllo (hv) (fun _ => ?_) | (apply clqi; apply rq_texts_asked_tells rfl) | refine cllo (value_Bad _) (fun _ => ?_) | (refine sda ?_ ?_; (focus (first | rfl | exact of_decide_eq_true rfl | (simp; done)))) | refine sda ?_ ?_ | refine conk rfl ?_ | refine ldk rfl ?_ | refine mapk (fun x hx => ?_) | exact ⟨rfl, rfl⟩ | refine nilk (fun h => absurd h (of_decide_eq_false rfl)) ?_ | refine nilk (fun h => absurd h (List.cons_ne_nil _ _)) ?_ | refine nilk (fun h => ?_) ?_ | exact rfl | exact True.intro | refine leftk1 rfl ?_ | refine bytk8 rfl ?_ | refine bytk rfl ?_ | exact leftk0 rfl | refine eqk rfl ?_ | refine fLm rfl ?_ | refine fLk (by assumption) ?_ | refine fVk ?_ | refine fLVk ?_ | refine fWk ?_ | intro hl))
  all_goals conv => whnf
  all_goals exact ⟨rfl, rfl⟩
 ·rw [hvr] at hv
  refine ⟨strS (Utf8.encode (IntKind.i32.wrap k)), true, q1, strS_good _, ?_⟩
  refine rl_texts_char rfl fun hw9 _ => ?_
  clear hw9
  repeat' ((conv => whnf); (first | refine Bth.mk ?_ ?_ | refine csp_t (d2) ?_ | refine csp_t (d3) ?_ | refine csp_f (d1) ?_ | refine pickk0 ?_ | refine csp (fun h => ?_) (fun h => ?_) | refine clll (RetL.frame (t1) _ [0] rfl (by simp) rfl rfl) (fun _ _ => ?_) | refine cllo (hv) (fun _ => ?_) | (apply clqi; apply rq_texts_asked_tells rfl) | (apply clqi; apply rq_texts_char_1 rfl) | refine cllo (value_Str _) (fun _ => ?_) | (refine sda ?_ ?_; (focus (first | rfl | exact of_decide_eq_true rfl | (simp; done)))) | refine sda ?_ ?_ | refine conk rfl ?_ | refine ldk rfl ?_ | refine mapk (fun x hx => ?_) | exact ⟨rfl, rfl⟩ | refine nilk (fun h => absurd h (of_decide_eq_false rfl)) ?_ | refine nilk (fun h => absurd h (List.cons_ne_nil _ _)) ?_ | refine nilk (fun h => ?_) ?_ | exact rfl | exact True.intro | refine leftk1 rfl ?_ | refine bytk8 rfl ?_ | refine bytk rfl ?_ | exact leftk0 rfl | refine eqk rfl ?_ | refine fLm rfl ?_ | refine fLk (by assumption) ?_ | refine fVk ?_ | refine fLVk ?_ | refine fWk ?_ | intro hl))
  all_goals conv => whnf
  all_goals exact ⟨rfl, rfl⟩
theorem rt_bad (l : List Ar) (b n : Int) (s : ByteArray) (c : Bool) (hb : 0 < b) : Ret Tryz.prog F_texts_asked_tells [.elem [.row false (l.map cA), .int .i64 b], .bool c, .fn F_texts_rept_1 [] [.elem [.str s], .elem [.int .i64 n]]] (eV (badS b)) := by
 have d1 : decide (b > 0) = true := decide_eq_true hb
 refine r_texts_asked_tells rfl fun hw => ?_
 clear hw
 repeat' ((conv => whnf); (first | refine Bth.mk ?_ ?_ | refine csp_t (d1) ?_ | refine pickk0 ?_ | refine csp (fun h => ?_) (fun h => ?_) | refine cllo (value_Bad _) (fun _ => ?_) | (refine sda ?_ ?_; (focus (first | rfl | exact of_decide_eq_true rfl | (simp; done)))) | refine sda ?_ ?_ | refine conk rfl ?_ | refine ldk rfl ?_ | refine mapk (fun x hx => ?_) | exact ⟨rfl, rfl⟩ | refine nilk (fun h => absurd h (of_decide_eq_false rfl)) ?_ | refine nilk (fun h => absurd h (List.cons_ne_nil _ _)) ?_ | refine nilk (fun h => ?_) ?_ | exact rfl | exact True.intro | refine leftk1 rfl ?_ | refine bytk8 rfl ?_ | refine bytk rfl ?_ | exact leftk0 rfl | refine eqk rfl ?_ | refine fLm rfl ?_ | refine fLk (by assumption) ?_ | refine fVk ?_ | refine fLVk ?_ | refine fWk ?_ | intro hl))
 all_goals conv => whnf
theorem rt_no (l : List Ar) (b n : Int) (s : ByteArray) (hb : ¬ 0 < b) : Ret Tryz.prog F_texts_asked_tells [.elem [.row false (l.map cA), .int .i64 b], .bool false, .fn F_texts_rept_1 [] [.elem [.str s], .elem [.int .i64 n]]] (eV (badS 2)) := by
 have d1 : decide (b > 0) = false := decide_eq_false hb
 refine r_texts_asked_tells rfl fun hw => ?_
 clear hw
 repeat' ((conv => whnf); (first | refine Bth.mk ?_ ?_ | refine csp_f (d1) ?_ | refine pickk0 ?_ | refine csp (fun h => ?_) (fun h => ?_) | refine cllo (value_Bad _) (fun _ => ?_) | (refine sda ?_ ?_; (focus (first | rfl | exact of_decide_eq_true rfl | (simp; done)))) | refine sda ?_ ?_ | refine conk rfl ?_ | refine ldk rfl ?_ | refine mapk (fun x hx => ?_) | exact ⟨rfl, rfl⟩ | refine nilk (fun h => absurd h (of_decide_eq_false rfl)) ?_ | refine nilk (fun h => absurd h (List.cons_ne_nil _ _)) ?_ | refine nilk (fun h => ?_) ?_ | exact rfl | exact True.intro | refine leftk1 rfl ?_ | refine bytk8 rfl ?_ | refine bytk rfl ?_ | exact leftk0 rfl | refine eqk rfl ?_ | refine fLm rfl ?_ | refine fLk (by assumption) ?_ | refine fVk ?_ | refine fLVk ?_ | refine fWk ?_ | intro hl))
 all_goals conv => whnf
theorem rt_e (l : List Ar) (b n : Int) (hb : ¬ 0 < b) : Ret Tryz.prog F_texts_asked_tells [.elem [.row false (l.map cA), .int .i64 b], .bool true, .fn F_texts_rept_1 [] [.elem [.str e0], .elem [.int .i64 n]]] (eV (strS e0)) := by
 have d1 : decide (b > 0) = false := decide_eq_false hb
 refine r_texts_asked_tells rfl fun hw => ?_
 clear hw
 repeat' ((conv => whnf); (first | refine Bth.mk ?_ ?_ | refine csp_f (d1) ?_ | refine pickk0 ?_ | refine csp (fun h => ?_) (fun h => ?_) | (apply clqi; apply rq_texts_rept_1 rfl) | refine cllo (value_Str _) (fun _ => ?_) | (refine sda ?_ ?_; (focus (first | rfl | exact of_decide_eq_true rfl | (simp; done)))) | refine sda ?_ ?_ | refine conk rfl ?_ | refine ldk rfl ?_ | refine mapk (fun x hx => ?_) | exact ⟨rfl, rfl⟩ | refine nilk (fun h => absurd h (of_decide_eq_false rfl)) ?_ | refine nilk (fun h => absurd h (List.cons_ne_nil _ _)) ?_ | refine nilk (fun h => ?_) ?_ | exact rfl | exact True.intro | refine leftk1 rfl ?_ | refine bytk8 rfl ?_ | refine bytk rfl ?_ | exact leftk0 rfl | refine eqk rfl ?_ | refine fLm rfl ?_ | refine fLk (by assumption) ?_ | refine fVk ?_ | refine fLVk ?_ | refine fWk ?_ | intro hl))
 all_goals conv => whnf
theorem rt_y (l : List Ar) (b : Int) (n : Nat) (s : ByteArray) (hb : ¬ 0 < b) (h0 : s ≠ e0) (hs : s.size ≤ 255) (hn : n ≤ 10000000) (h : s.size * n ≤ 65025) : Ret Tryz.prog F_texts_asked_tells [.elem [.row false (l.map cA), .int .i64 b], .bool true, .fn F_texts_rept_1 [] [.elem [.str s], .elem [.int .i64 n]]] (eV (strS (repB s n))) := by
 have d1 : decide (b > 0) = false := decide_eq_false hb
 have a2 : decide (s = e0) = false := decide_eq_false h0
 have hr := Repeat_c s n h hn (by rw [rep_size, Nat.mul_comm]; exact h)
 refine r_texts_asked_tells rfl fun hw => ?_
 clear hw
 repeat' ((conv => whnf); (first | refine Bth.mk ?_ ?_ | refine csp_f (d1) ?_ | refine csp_f (a2) ?_ | refine pickk0 ?_ | refine csp (fun h => ?_) (fun h => ?_) | (apply clqi; apply rq_texts_rept_1 rfl) | refine cllo (hr) (fun _ => ?_) | refine cllo (value_Str _) (fun _ => ?_) | (refine sda ?_ ?_; (focus (first | rfl | exact of_decide_eq_true rfl | (simp; done)))) | refine sda ?_ ?_ | refine conk rfl ?_ | refine ldk rfl ?_ | refine mapk (fun x hx => ?_) | exact ⟨rfl, rfl⟩ | refine nilk (fun h => absurd h (of_decide_eq_false rfl)) ?_ | refine nilk (fun h => absurd h (List.cons_ne_nil _ _)) ?_ | refine nilk (fun h => ?_) ?_ | exact rfl | exact True.intro | refine leftk1 rfl ?_ | refine bytk8 rfl ?_ | refine bytk rfl ?_ | exact leftk0 rfl | refine eqk rfl ?_ | refine fLm rfl ?_ | refine fLk (by assumption) ?_ | refine fVk ?_ | refine fLVk ?_ | refine fWk ?_ | intro hl))
 all_goals conv => whnf
theorem g_rept : G1 F_texts_rept [] := by
 intro q hq
 have t1 := text_g q
 obtain ⟨z1, hq1⟩ := txS_ok hq
 generalize txS q = p1 at *
 obtain ⟨s, q1⟩ := p1
 dsimp only at t1 z1 hq1
 have t2 := whole_g 0 q1
 obtain ⟨z2, hq2⟩ := whS_ok (d := 0) hq1 (by decide)
 generalize whS18 0 q1 = p2 at *
 obtain ⟨k, l, b⟩ := p2
 dsimp only at t2 z2 hq2
 by_cases hb : 0 < b
 ·refine ⟨badS b, false, ⟨l, b⟩, goodV_bad _, ?_⟩
  refine rl_texts_rept rfl fun hw9 _ => ?_
  clear hw9
  repeat' ((conv => whnf); (first | refine Bth.mk ?_ ?_ | refine pickk0 ?_ | refine csp (fun h => ?_) (fun h => ?_) | refine clll (RetL.frame (t1) _ [0] rfl (by simp) rfl rfl) (fun _ _ => ?_) | refine clll (RetL.frame (t2) _ [0] rfl (by simp) rfl rfl) (fun _ _ => ?_) | refine cllo (rt_bad l b k s _ hb) (fun _ => ?_) | (refine sda ?_ ?_; (focus (first | rfl | exact of_decide_eq_true rfl | (simp; done)))) | refine sda ?_ ?_ | refine conk rfl ?_ | refine ldk rfl ?_ | refine mapk (fun x hx => ?_) | exact ⟨rfl, rfl⟩ | refine nilk (fun h => absurd h (of_decide_eq_false rfl)) ?_ | refine nilk (fun h => absurd h (List.cons_ne_nil _ _)) ?_ | refine nilk (fun h => ?_) ?_ | exact rfl | exact True.intro | refine leftk1 rfl ?_ | refine bytk8 rfl ?_ | refine bytk rfl ?_ | exact leftk0 rfl | refine eqk rfl ?_ | refine fLm rfl ?_ | refine fLk (by assumption) ?_ | refine fVk ?_ | refine fLVk ?_ | refine fWk ?_ | intro hl))
  all_goals conv => whnf
  have := size_pos (of_decide_eq_false h)
  omega
 have a0 : ∀ h : s ≠ e0, (s.size : Int) ≠ 0 := fun h => by have := size_pos h; omega
 by_cases hk : 0 ≤ k
 rotate_left
 ·have c1 : decide (k ≥ 0) = false := decide_eq_false (by omega)
  refine ⟨badS 2, false, ⟨l, b⟩, goodV_bad _, ?_⟩
  refine rl_texts_rept rfl fun hw9 _ => ?_
  clear hw9
  repeat' ((conv => whnf); (first | refine Bth.mk ?_ ?_ | refine csp_f (c1) ?_ | refine pickk0 ?_ | refine csp (fun h => ?_) (fun h => ?_) | refine clll (RetL.frame (t1) _ [0] rfl (by simp) rfl rfl) (fun _ _ => ?_) | refine clll (RetL.frame (t2) _ [0] rfl (by simp) rfl rfl) (fun _ _ => ?_) | refine cllo (rt_no l b k s hb) (fun _ => ?_) | (refine sda ?_ ?_; (focus (first | rfl | exact of_decide_eq_true rfl | (simp; done)))) | refine sda ?_ ?_ | refine conk rfl ?_ | refine ldk rfl ?_ | refine mapk (fun x hx => ?_) | exact ⟨rfl, rfl⟩ | refine nilk (fun h => absurd h (of_decide_eq_false rfl)) ?_ | refine nilk (fun h => absurd h (List.cons_ne_nil _ _)) ?_ | refine nilk (fun h => ?_) ?_ | exact rfl | exact True.intro | refine leftk1 rfl ?_ | refine bytk8 rfl ?_ | refine bytk rfl ?_ | exact leftk0 rfl | refine eqk rfl ?_ | refine fLm rfl ?_ | refine fLk (by assumption) ?_ | refine fVk ?_ | refine fLVk ?_ | refine fWk ?_ | intro hl))
  all_goals conv => whnf
 have c1 : decide (k ≥ 0) = true := decide_eq_true hk
 by_cases h0 : s = e0
 ·subst h0
  refine ⟨strS e0, false, ⟨l, b⟩, strS_good _, ?_⟩
  refine rl_texts_rept rfl fun hw9 _ => ?_
  clear hw9
  repeat' ((conv => whnf); (first | refine Bth.mk ?_ ?_ | refine csp_t (c1) ?_ | refine pickk0 ?_ | refine csp (fun h => ?_) (fun h => ?_) | refine clll (RetL.frame (t1) _ [0] rfl (by simp) rfl rfl) (fun _ _ => ?_) | refine clll (RetL.frame (t2) _ [0] rfl (by simp) rfl rfl) (fun _ _ => ?_) | refine cllo (rt_e l b k hb) (fun _ => ?_) | (refine sda ?_ ?_; (focus (first | rfl | exact of_decide_eq_true rfl | (simp; done)))) | refine sda ?_ ?_ | refine conk rfl ?_ | refine ldk rfl ?_ | refine mapk (fun x hx => ?_) | exact ⟨rfl, rfl⟩ | refine nilk (fun h => absurd h (of_decide_eq_false rfl)) ?_ | refine nilk (fun h => absurd h (List.cons_ne_nil _ _)) ?_ | refine nilk (fun h => ?_) ?_ | exact rfl | exact True.intro | refine leftk1 rfl ?_ | refine bytk8 rfl ?_ | refine bytk rfl ?_ | exact leftk0 rfl | refine eqk rfl ?_ | refine fLm rfl ?_ | refine fLk (by assumption) ?_ | refine fVk ?_ | refine fLVk ?_ | refine fWk ?_ | intro hl))
  all_goals conv => whnf
 have c2 : decide (s = e0) = false := decide_eq_false h0
 have hp := size_pos h0
 obtain ⟨n, rfl⟩ : ∃ n : Nat, k = (n : Int) := ⟨k.toNat, by omega⟩
 by_cases c3 : decide ((n : Int) ≤ IntKind.i64.wrap (Int.tdiv 255 (s.size : Int))) = true
 ·have q1 : Int.tdiv 255 (s.size : Int) = 255 / (s.size : Int) := Int.tdiv_eq_ediv_of_nonneg (by decide)
  have q3 : 255 / (s.size : Int) ≤ 255 := Int.ediv_le_self _ (by decide)
  have q4 : 0 ≤ 255 / (s.size : Int) := Int.ediv_nonneg (by decide) (by omega)
  have q5 := of_decide_eq_true c3
  rw [q1, w64 (by omega)] at q5
  have q6 := Int.mul_le_of_le_ediv (show (0 : Int) < s.size by omega) q5
  have q7 : s.size * n ≤ 255 := by
   have : ((s.size * n : Nat) : Int) ≤ 255 := by
    rw [Int.natCast_mul, Int.mul_comm]
    exact q6
   omega
  have hY := rt_y l b n s hb h0 z1 (by omega) (by omega)
  rw [← c3] at hY
  refine ⟨strS (repB s n), false, ⟨l, b⟩, strS_good _, ?_⟩
  refine rl_texts_rept rfl fun hw9 _ => ?_
  clear hw9
  repeat' ((conv => whnf); (first | refine Bth.mk ?_ ?_ | refine csp_t (c1) ?_ | refine csp_f (c2) ?_ | refine pickk0 ?_ | refine csp (fun h => ?_) (fun h => ?_) | refine clll (RetL.frame (t1) _ [0] rfl (by simp) rfl rfl) (fun _ _ => ?_) | refine clll (RetL.frame (t2) _ [0] rfl (by simp) rfl rfl) (fun _ _ => ?_) | refine cllo (hY) (fun _ => ?_) | (refine sda ?_ ?_; (focus (first | rfl | exact of_decide_eq_true rfl | (simp; done)))) | refine sda ?_ ?_ | refine conk rfl ?_ | refine ldk rfl ?_ | refine mapk (fun x hx => ?_) | exact ⟨rfl, rfl⟩ | refine nilk (fun h => absurd h (of_decide_eq_false rfl)) ?_ | refine nilk (fun h => absurd h (List.cons_ne_nil _ _)) ?_ | refine nilk (fun h => ?_) ?_ | exact rfl | exact True.intro | refine leftk1 rfl ?_ | refine bytk8 rfl ?_ | refine bytk rfl ?_ | exact leftk0 rfl | refine eqk rfl ?_ | refine fLm rfl ?_ | refine fLk (by assumption) ?_ | refine fVk ?_ | refine fLVk ?_ | refine fWk ?_ | intro hl))
  all_goals conv => whnf
  exact a0 h0 hl
 ·have c3 : decide ((n : Int) ≤ IntKind.i64.wrap (Int.tdiv 255 (s.size : Int))) = false := by simpa using c3
  have hY : Ret Tryz.prog F_texts_asked_tells [.elem [.row false (l.map cA), .int .i64 b], .bool (decide ((n : Int) ≤ IntKind.i64.wrap (Int.tdiv 255 (s.size : Int)))), .fn F_texts_rept_1 [] [.elem [.str s], .elem [.int .i64 n]]] (eV (badS 2)) := by
   rw [c3]
   exact rt_no l b n s hb
  refine ⟨badS 2, false, ⟨l, b⟩, goodV_bad _, ?_⟩
  refine rl_texts_rept rfl fun hw9 _ => ?_
  clear hw9
  repeat' ((conv => whnf); (first | refine Bth.mk ?_ ?_ | refine csp_t (c1) ?_ | refine csp_f (c2) ?_ | refine pickk0 ?_ | refine csp (fun h => ?_) (fun h => ?_) | refine clll (RetL.frame (t1) _ [0] rfl (by simp) rfl rfl) (fun _ _ => ?_) | refine clll (RetL.frame (t2) _ [0] rfl (by simp) rfl rfl) (fun _ _ => ?_) | refine cllo (hY) (fun _ => ?_) | (refine sda ?_ ?_; (focus (first | rfl | exact of_decide_eq_true rfl | (simp; done)))) | refine sda ?_ ?_ | refine conk rfl ?_ | refine ldk rfl ?_ | refine mapk (fun x hx => ?_) | exact ⟨rfl, rfl⟩ | refine nilk (fun h => absurd h (of_decide_eq_false rfl)) ?_ | refine nilk (fun h => absurd h (List.cons_ne_nil _ _)) ?_ | refine nilk (fun h => ?_) ?_ | exact rfl | exact True.intro | refine leftk1 rfl ?_ | refine bytk8 rfl ?_ | refine bytk rfl ?_ | exact leftk0 rfl | refine eqk rfl ?_ | refine fLm rfl ?_ | refine fLk (by assumption) ?_ | refine fVk ?_ | refine fLVk ?_ | refine fWk ?_ | intro hl))
  all_goals conv => whnf
  exact a0 h0 hl
end Go.Proofs.YtcbknemdidehlaaGreatDoor
